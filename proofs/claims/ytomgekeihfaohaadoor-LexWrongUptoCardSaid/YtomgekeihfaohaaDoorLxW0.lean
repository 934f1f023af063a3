/- The models hold of the program. Written by dc.py. -/
import Derived.Test.YtomgekeihfaohaaDoorLxT
import Derived.Test.YtomgekeihfaohaaDoorLxM
namespace Go.Am
open Go Go.Proofs
set_option maxRecDepth 100000
set_option linter.unusedSimpArgs false
set_option linter.unusedVariables false
theorem cp_strings_IndexByte (s : Str) (c : Int) : CP Tryd.prog 47 [.str s, .int .u8 c] (strings_IndexByte s c) (fun x => AV.int .i64 x) :=
  cp_lib (.mk Tryd.func47 rfl (by decide)) (fun p h => by cases h) fun a ha B mu h w cargs hs hl => by
    obtain ⟨c1, c2, rfl, h1, h2⟩ := lrv_two hl
    obtain rfl := rv_str h1; obtain rfl := rv_int h2
    cases ha
    refine (Go.Proofs.Tryd.strings_IndexByte ⟨s.toArray⟩ c w).mono ?_
    rintro e w' ⟨rfl, rfl⟩
    exact ⟨Go.RowKit.Below.refl _ _, _, rfl, .int _ _⟩

theorem cp_lex_class (c : Int) : CP Tryd.prog 30 [(.int .u8 c)] (lex_class c) (fun (x : Int) => (AV.int .i64 x)) := by
  refine cp_intro (n := 47) 0 Tryd.func30 rfl (by decide) rfl rfl fun h0 ids hI => ?_
  refine wr_in (wr_mod (lex_class.eq_1 _) ?_)
  refine wr_seq ?_
  refine wr_region ?_
  refine wo_val (.int .i64 0) rfl pv_assign ?_
  refine wo_nil ?_
  refine wr_seq ?_
  refine wr_block ?_
  refine wr_seq ?_
  refine wr_region ?_
  refine wo_val (.int .u8 c) rfl pv_move ?_
  refine wo_val (.bool (decide (c ≥ 97))) rfl (pv_bin rfl rfl rfl) ?_
  refine wo_val (.bool (decide (c ≥ 97))) rfl pv_move ?_
  refine wo_meet 3 [(0, (.int .u8 c)), (9, (.bool ((decide (c ≥ 97)) && (decide (c ≤ 122)))))] ?_ fun hJ => wo_cases (decide (c ≥ 97)) (fun hb1 => ?_) (fun hb1 => ?_)
  · refine wo_val (.bool ((decide (c ≥ 97)) && (decide (c ≤ 122)))) rfl pv_move ?_
    refine wo_meet 7 [(0, (.int .u8 c)), (17, (.bool (((decide (c ≥ 97)) && (decide (c ≤ 122))) || ((decide (c ≥ 65)) && (decide (c ≤ 90))))))] ?_ fun hJ1 => wo_cases ((decide (c ≥ 97)) && (decide (c ≤ 122))) (fun hb3 => ?_) (fun hb3 => ?_)
    · refine wo_val (.bool (((decide (c ≥ 97)) && (decide (c ≤ 122))) || ((decide (c ≥ 65)) && (decide (c ≤ 90))))) rfl pv_assign ?_
      refine wo_nil ?_
      refine wf_iteb rfl (fun hc => ?_) (fun hc => ?_)
      · refine wr_seq ?_
        refine wr_region ?_
        refine wo_val (.int .i64 2) rfl pv_assign ?_
        refine wo_nil ?_
        exact wr_ret (a := 2) (vs := [(.int .i64 2)]) Tryd.func30 hI rfl (.same _)
      · refine wr_seq ?_
        refine wr_region ?_
        refine wo_val (.int .u8 c) rfl pv_move ?_
        refine wo_val (.bool (decide (c ≥ 48))) rfl (pv_bin rfl rfl rfl) ?_
        refine wo_val (.bool (decide (c ≥ 48))) rfl pv_move ?_
        refine wo_meet 3 [(0, (.int .u8 c)), (24, (.bool ((decide (c ≥ 48)) && (decide (c ≤ 57)))))] ?_ fun hJ3 => wo_cases (decide (c ≥ 48)) (fun hb7 => ?_) (fun hb7 => ?_)
        · refine wo_val (.bool ((decide (c ≥ 48)) && (decide (c ≤ 57)))) rfl pv_assign ?_
          refine wo_nil ?_
          refine wf_iteb rfl (fun hc1 => ?_) (fun hc1 => ?_)
          · refine wr_seq ?_
            refine wr_region ?_
            refine wo_val (.int .i64 3) rfl pv_assign ?_
            refine wo_nil ?_
            exact wr_ret (a := 3) (vs := [(.int .i64 3)]) Tryd.func30 hI rfl (.same _)
          · refine wr_seq ?_
            refine wr_region ?_
            refine wo_val (.int .u8 c) rfl pv_move ?_
            refine wo_val (.bool (c == 95)) rfl (pv_bin rfl rfl rfl) ?_
            refine wo_val (.bool (c == 95)) rfl pv_assign ?_
            refine wo_nil ?_
            refine wf_iteb rfl (fun hc2 => ?_) (fun hc2 => ?_)
            · refine wr_seq ?_
              refine wr_region ?_
              refine wo_val (.int .i64 5) rfl pv_assign ?_
              refine wo_nil ?_
              exact wr_ret (a := 5) (vs := [(.int .i64 5)]) Tryd.func30 hI rfl (.same _)
            · refine wr_seq ?_
              refine wr_region ?_
              refine wo_val (.int .u8 c) rfl pv_move ?_
              refine wo_val (.bool (c == 32)) rfl (pv_bin rfl rfl rfl) ?_
              refine wo_val (.bool (c == 32)) rfl pv_move ?_
              refine wo_meet 3 [(0, (.int .u8 c)), (34, (.bool ((c == 32) || (c == 9))))] ?_ fun hJ4 => wo_cases (c == 32) (fun hb9 => ?_) (fun hb9 => ?_)
              · refine wo_val (.bool ((c == 32) || (c == 9))) rfl pv_move ?_
                refine wo_meet 3 [(0, (.int .u8 c)), (38, (.bool (((c == 32) || (c == 9)) || (c == 10))))] ?_ fun hJ5 => wo_cases ((c == 32) || (c == 9)) (fun hb11 => ?_) (fun hb11 => ?_)
                · refine wo_val (.bool (((c == 32) || (c == 9)) || (c == 10))) rfl pv_move ?_
                  refine wo_meet 3 [(0, (.int .u8 c)), (42, (.bool ((((c == 32) || (c == 9)) || (c == 10)) || (c == 13))))] ?_ fun hJ6 => wo_cases (((c == 32) || (c == 9)) || (c == 10)) (fun hb13 => ?_) (fun hb13 => ?_)
                  · refine wo_val (.bool ((((c == 32) || (c == 9)) || (c == 10)) || (c == 13))) rfl pv_assign ?_
                    refine wo_nil ?_
                    refine wf_iteb rfl (fun hc3 => ?_) (fun hc3 => ?_)
                    · refine wr_seq ?_
                      refine wr_region ?_
                      refine wo_val (.int .i64 1) rfl pv_assign ?_
                      refine wo_nil ?_
                      exact wr_ret (a := 1) (vs := [(.int .i64 1)]) Tryd.func30 hI rfl (.same _)
                    · refine wr_seq ?_
                      refine wr_region ?_
                      refine wo_val (.int .u8 c) rfl pv_move ?_
                      refine of_call [(.str [123, 125, 40, 41, 59, 44, 61, 35, 47, 60, 33, 45, 46]), (.int .u8 c)] rfl rfl rfl rfl ((cp_strings_IndexByte [123, 125, 40, 41, 59, 44, 61, 35, 47, 60, 33, 45, 46] c) _) (fun v _ => wu_pan Tryd.func30 hI) fun r _ => ?_
                      refine wo_val (.bool (decide (r ≥ 0))) rfl (pv_bin rfl rfl rfl) ?_
                      refine wo_val (.bool (decide (r ≥ 0))) rfl pv_assign ?_
                      refine wo_nil ?_
                      refine wf_ite rfl (fun hc4 => ?_) (fun hc4 => ?_)
                      · refine wr_seq ?_
                        refine wr_region ?_
                        refine wo_val (.int .i64 4) rfl pv_assign ?_
                        refine wo_nil ?_
                        exact wr_ret (a := 4) (vs := [(.int .i64 4)]) Tryd.func30 hI rfl (.same _)
                      · refine wr_skip ?_
                        refine wr_inBlock ?_
                        refine wr_seq ?_
                        refine wr_region ?_
                        refine wo_val (.int .i64 0) rfl pv_assign ?_
                        refine wo_nil ?_
                        exact wr_ret (a := 0) (vs := [(.int .i64 0)]) Tryd.func30 hI rfl (.same _)
                  · refine wo_not (tj := 39) (b := true) rfl (congrArg AV.bool hb13) rfl rfl ?_
                    refine wo_not (tj := 39) (b := true) rfl (congrArg AV.bool hb13) rfl rfl ?_
                    refine wo_val (.bool true) rfl (pv_pick (t := true) (congrArg AV.bool hb13) rfl) ?_
                    exact wo_is [(0, (.int .u8 c)), (42, (.bool ((((c == 32) || (c == 9)) || (c == 10)) || (c == 13))))] (.cons rfl (.cons (or_t hb13) .nil)) hJ6
                  · refine wo_valg (tj := 39) (.int .u8 c) rfl (congrArg AV.bool hb13) rfl pv_move ?_
                    refine wo_valg (tj := 39) (.bool (c == 13)) rfl (congrArg AV.bool hb13) rfl (pv_bin rfl rfl rfl) ?_
                    refine wo_val (.bool (c == 13)) rfl (pv_pick (t := false) (congrArg AV.bool hb13) rfl) ?_
                    exact wo_is [(0, (.int .u8 c)), (42, (.bool ((((c == 32) || (c == 9)) || (c == 10)) || (c == 13))))] (.cons rfl (.cons (or_f hb13) .nil)) hJ6
                · refine wo_not (tj := 35) (b := true) rfl (congrArg AV.bool hb11) rfl rfl ?_
                  refine wo_not (tj := 35) (b := true) rfl (congrArg AV.bool hb11) rfl rfl ?_
                  refine wo_val (.bool true) rfl (pv_pick (t := true) (congrArg AV.bool hb11) rfl) ?_
                  exact wo_is [(0, (.int .u8 c)), (38, (.bool (((c == 32) || (c == 9)) || (c == 10))))] (.cons rfl (.cons (or_t hb11) .nil)) hJ5
                · refine wo_valg (tj := 35) (.int .u8 c) rfl (congrArg AV.bool hb11) rfl pv_move ?_
                  refine wo_valg (tj := 35) (.bool (c == 10)) rfl (congrArg AV.bool hb11) rfl (pv_bin rfl rfl rfl) ?_
                  refine wo_val (.bool (c == 10)) rfl (pv_pick (t := false) (congrArg AV.bool hb11) rfl) ?_
                  exact wo_is [(0, (.int .u8 c)), (38, (.bool (((c == 32) || (c == 9)) || (c == 10))))] (.cons rfl (.cons (or_f hb11) .nil)) hJ5
              · refine wo_not (tj := 31) (b := true) rfl (congrArg AV.bool hb9) rfl rfl ?_
                refine wo_not (tj := 31) (b := true) rfl (congrArg AV.bool hb9) rfl rfl ?_
                refine wo_val (.bool true) rfl (pv_pick (t := true) (congrArg AV.bool hb9) rfl) ?_
                exact wo_is [(0, (.int .u8 c)), (34, (.bool ((c == 32) || (c == 9))))] (.cons rfl (.cons (or_t hb9) .nil)) hJ4
              · refine wo_valg (tj := 31) (.int .u8 c) rfl (congrArg AV.bool hb9) rfl pv_move ?_
                refine wo_valg (tj := 31) (.bool (c == 9)) rfl (congrArg AV.bool hb9) rfl (pv_bin rfl rfl rfl) ?_
                refine wo_val (.bool (c == 9)) rfl (pv_pick (t := false) (congrArg AV.bool hb9) rfl) ?_
                exact wo_is [(0, (.int .u8 c)), (34, (.bool ((c == 32) || (c == 9))))] (.cons rfl (.cons (or_f hb9) .nil)) hJ4
        · refine wo_valg (tj := 21) (.int .u8 c) rfl (congrArg AV.bool hb7) rfl pv_move ?_
          refine wo_valg (tj := 21) (.bool (decide (c ≤ 57))) rfl (congrArg AV.bool hb7) rfl (pv_bin rfl rfl rfl) ?_
          refine wo_val (.bool (decide (c ≤ 57))) rfl (pv_pick (t := true) (congrArg AV.bool hb7) rfl) ?_
          exact wo_is [(0, (.int .u8 c)), (24, (.bool ((decide (c ≥ 48)) && (decide (c ≤ 57)))))] (.cons rfl (.cons (and_t hb7) .nil)) hJ3
        · refine wo_not (tj := 21) (b := false) rfl (congrArg AV.bool hb7) rfl rfl ?_
          refine wo_not (tj := 21) (b := false) rfl (congrArg AV.bool hb7) rfl rfl ?_
          refine wo_val (.bool false) rfl (pv_pick (t := false) (congrArg AV.bool hb7) rfl) ?_
          exact wo_is [(0, (.int .u8 c)), (24, (.bool ((decide (c ≥ 48)) && (decide (c ≤ 57)))))] (.cons rfl (.cons (and_f hb7) .nil)) hJ3
    · refine wo_not (tj := 10) (b := true) rfl (congrArg AV.bool hb3) rfl rfl ?_
      refine wo_not (tj := 10) (b := true) rfl (congrArg AV.bool hb3) rfl rfl ?_
      refine wo_not (tj := 10) (b := true) rfl (congrArg AV.bool hb3) rfl rfl ?_
      refine wo_notu (tj := 13) rfl rfl rfl ?_
      refine wo_notu (tj := 13) rfl rfl rfl ?_
      refine wo_not (tj := 10) (b := true) rfl (congrArg AV.bool hb3) rfl rfl ?_
      refine wo_val (.bool true) rfl (pv_pick (t := true) (congrArg AV.bool hb3) rfl) ?_
      exact wo_is [(0, (.int .u8 c)), (17, (.bool (((decide (c ≥ 97)) && (decide (c ≤ 122))) || ((decide (c ≥ 65)) && (decide (c ≤ 90))))))] (.cons rfl (.cons (or_t hb3) .nil)) hJ1
    · refine wo_valg (tj := 10) (.int .u8 c) rfl (congrArg AV.bool hb3) rfl pv_move ?_
      refine wo_valg (tj := 10) (.bool (decide (c ≥ 65))) rfl (congrArg AV.bool hb3) rfl (pv_bin rfl rfl rfl) ?_
      refine wo_valg (tj := 10) (.bool (decide (c ≥ 65))) rfl (congrArg AV.bool hb3) rfl pv_move ?_
      refine wo_meet 3 [(0, (.int .u8 c)), (10, (.bool ((decide (c ≥ 97)) && (decide (c ≤ 122))))), (16, (.bool ((decide (c ≥ 65)) && (decide (c ≤ 90)))))] ?_ fun hJ2 => wo_cases (decide (c ≥ 65)) (fun hb5 => ?_) (fun hb5 => ?_)
      · refine wo_val (.bool ((decide (c ≥ 65)) && (decide (c ≤ 90)))) rfl (pv_pick (t := false) (congrArg AV.bool hb3) rfl) ?_
        exact wo_is [(0, (.int .u8 c)), (17, (.bool (((decide (c ≥ 97)) && (decide (c ≤ 122))) || ((decide (c ≥ 65)) && (decide (c ≤ 90))))))] (.cons rfl (.cons (or_f hb3) .nil)) hJ1
      · refine wo_valg (tj := 13) (.int .u8 c) rfl (congrArg AV.bool hb5) rfl pv_move ?_
        refine wo_valg (tj := 13) (.bool (decide (c ≤ 90))) rfl (congrArg AV.bool hb5) rfl (pv_bin rfl rfl rfl) ?_
        refine wo_valg (tj := 10) (.bool (decide (c ≤ 90))) rfl (congrArg AV.bool hb3) rfl (pv_pick (t := true) (congrArg AV.bool hb5) rfl) ?_
        exact wo_is [(0, (.int .u8 c)), (10, (.bool ((decide (c ≥ 97)) && (decide (c ≤ 122))))), (16, (.bool ((decide (c ≥ 65)) && (decide (c ≤ 90)))))] (.cons rfl (.cons rfl (.cons (and_t hb5) .nil))) hJ2
      · refine wo_not (tj := 13) (b := false) rfl (congrArg AV.bool hb5) rfl rfl ?_
        refine wo_not (tj := 13) (b := false) rfl (congrArg AV.bool hb5) rfl rfl ?_
        refine wo_valg (tj := 10) (.bool false) rfl (congrArg AV.bool hb3) rfl (pv_pick (t := false) (congrArg AV.bool hb5) rfl) ?_
        exact wo_is [(0, (.int .u8 c)), (10, (.bool ((decide (c ≥ 97)) && (decide (c ≤ 122))))), (16, (.bool ((decide (c ≥ 65)) && (decide (c ≤ 90)))))] (.cons rfl (.cons rfl (.cons (and_f hb5) .nil))) hJ2
  · refine wo_valg (tj := 6) (.int .u8 c) rfl (congrArg AV.bool hb1) rfl pv_move ?_
    refine wo_valg (tj := 6) (.bool (decide (c ≤ 122))) rfl (congrArg AV.bool hb1) rfl (pv_bin rfl rfl rfl) ?_
    refine wo_val (.bool (decide (c ≤ 122))) rfl (pv_pick (t := true) (congrArg AV.bool hb1) rfl) ?_
    exact wo_is [(0, (.int .u8 c)), (9, (.bool ((decide (c ≥ 97)) && (decide (c ≤ 122)))))] (.cons rfl (.cons (and_t hb1) .nil)) hJ
  · refine wo_not (tj := 6) (b := false) rfl (congrArg AV.bool hb1) rfl rfl ?_
    refine wo_not (tj := 6) (b := false) rfl (congrArg AV.bool hb1) rfl rfl ?_
    refine wo_val (.bool false) rfl (pv_pick (t := false) (congrArg AV.bool hb1) rfl) ?_
    exact wo_is [(0, (.int .u8 c)), (9, (.bool ((decide (c ≥ 97)) && (decide (c ≤ 122)))))] (.cons rfl (.cons (and_f hb1) .nil)) hJ

theorem cp_lex_scanner_wrong (s : T48) : CP Tryd.prog 25 [(.cp (rT48 s) 0)] (lex_scanner_wrong s) (fun (_ : Unit) => AV.tup []) := by
  refine cp_intro (n := 7) 0 Tryd.func25 rfl (by decide) rfl rfl fun h0 ids hI => ?_
  refine wr_in (wr_mod (lex_scanner_wrong.eq_1 _) ?_)
  refine wr_region ?_
  refine wo_val (.cp (rT48 s) 0) rfl pv_move ?_
  refine wo_val (.cp (rT48 s) 0) rfl (pv_nilCheck rfl) ?_
  refine wo_val (.cp (rT48 s) 1) rfl (pv_fa (fa_cp (c := 0) (off := 1) (i := 1) ti49 rfl ti3 rfl)) ?_
  refine wo_val (.int .i64 s.fAt) rfl (pv_load (ld_cp ti3 rfl)) ?_
  refine wo_val (.iface 42 (.int .i64 s.fAt)) rfl (pv_iface ti42 (by decide)) ?_
  exact wo_panic (v := ⟨42, .int .i64 s.fAt⟩) rfl rfl (wu_pan Tryd.func25 hI)

theorem cp_slices_Index_int (s : (List Int)) (v : Int) : CP Tryd.prog 60 [(.sl 1 (List.map (rI .i64) s)), (.int .i64 v)] (slices_Index_int s v) (fun (x : Int) => (AV.int .i64 x)) := by
  refine cp_intro (n := 19) 0 Tryd.func60 rfl (by decide) rfl rfl fun h0 ids hI => ?_
  refine wr_in (wr_mod (slices_Index_int.eq_1 _ _) ?_)
  refine wr_seq ?_
  refine wr_region ?_
  refine wo_val (.int .i64 0) rfl pv_assign ?_
  refine wo_nil ?_
  refine wr_seq ?_
  refine wr_seq ?_
  refine wr_region ?_
  refine wo_val (.sl 1 (List.map (rI .i64) s)) rfl pv_move ?_
  refine wo_val (.int .i64 (s.length : Int)) rfl (pv_len (len_sl ti70)) ?_
  refine wo_val (.int .i64 0) rfl pv_move ?_
  refine wo_nil ?_
  refine wr_block ?_
  refine wr_is [(0, (.sl 1 (List.map (rI .i64) s))), (1, (.int .i64 v)), (7, (.int .i64 (s.length : Int))), (8, (.int .i64 0))] (.cons rfl (.cons rfl (.cons rfl (.cons rfl .nil)))) ?_
  refine wf_each' (P := Tryd.prog) s (fun j a => fun _ => slices_Index_int_b1 v j a) ((alt (fun _ => .ok (-1)) (fun r => .ok r)) : (Unit ⊕ Int) → R Int)
    (fun j => fun _ => fun (fr : Nat → AV) (h : AHeap) => fr = frA [(0, (.sl 1 (List.map (rI .i64) s))), (1, (.int .i64 v)), (7, (.int .i64 (s.length : Int))), (8, (.int .i64 (j : Int)))] ∧ h = hp h0 ids []) () ?_ ?_ ?_
  · exact ⟨rfl, rfl⟩
  · rintro j a ha W hW _ fr h ⟨rfl, rfl⟩
    refine wr_mod (m' := slices_Index_int_b1 v j a) rfl (wr_mod (slices_Index_int_b1.eq_1 _ _ _) ?_)
    refine wr_seq ?_
    refine wr_region ?_
    refine wo_val (.bool (decide ((j : Int) < (s.length : Int)))) rfl (pv_bin rfl rfl rfl) ?_
    refine wo_nil ?_
    refine wr_seq ?_
    refine wr_lim (t := 0) (L := s) rfl fun hlim => ?_
    refine wr_condT rfl (Int.ofNat_lt.2 (lt_of_get ha)) ?_
    refine wr_skip ?_
    refine wr_seq ?_
    refine wr_block ?_
    refine wr_seq ?_
    refine wr_region ?_
    refine wo_val (.int .i64 (j : Int)) rfl pv_move ?_
    refine wo_val (.int .i64 (j : Int)) rfl pv_assign ?_
    refine wo_nil ?_
    refine wr_seq ?_
    refine wr_region ?_
    refine wo_val (.int .i64 v) rfl pv_move ?_
    refine wo_val (.sl 1 (List.map (rI .i64) s)) rfl pv_move ?_
    refine wo_val (.int .i64 (j : Int)) rfl pv_move ?_
    refine wo_val (.cp [(.int .i64 a)] 0) rfl (pv_ixa (ixa_nat ti70 ti3 rfl ha)) ?_
    refine wo_val (.int .i64 a) rfl (pv_load (ld_cp ti3 rfl)) ?_
    refine wo_val (.bool (v == a)) rfl (pv_bin rfl rfl rfl) ?_
    refine wo_nil ?_
    refine wf_iteb rfl (fun hc => ?_) (fun hc => ?_)
    · refine wr_seq ?_
      refine wr_region ?_
      refine wo_val (.int .i64 (j : Int)) rfl pv_move ?_
      refine wo_val (.int .i64 (j : Int)) rfl pv_assign ?_
      refine wo_nil ?_
      refine wx_each ?_
      refine w_altr ?_
      exact wr_ret (a := (j : Int)) (vs := [(.int .i64 (j : Int))]) Tryd.func60 hI rfl (.same _)
    · refine wr_skip ?_
      refine wr_inBlock ?_
      refine wr_region ?_
      refine wo_val (.int .i64 (IntKind.wrap .i64 ((j : Int) + 1))) rfl (pv_bin rfl rfl rfl) ?_
      refine wo_val (.int .i64 (IntKind.wrap .i64 ((j : Int) + 1))) rfl pv_move ?_
      refine wo_nil ?_
      refine wr_is [(0, (.sl 1 (List.map (rI .i64) s))), (1, (.int .i64 v)), (7, (.int .i64 (s.length : Int))), (8, (.int .i64 ((j + 1 : Nat) : Int)))] (.cons rfl (.cons rfl (.cons rfl (.cons (inc_ok (lt_of_get ha) hlim) .nil)))) ?_
      refine wb_each ?_
      refine hW () _ _ ?_
      exact ⟨rfl, rfl⟩
  · rintro _ fr h ⟨rfl, rfl⟩
    refine wr_mod (alt_inl _ _ _) ?_
    refine wr_seq ?_
    refine wr_region ?_
    refine wo_val (.bool (decide ((s.length : Int) < (s.length : Int)))) rfl (pv_bin rfl rfl rfl) ?_
    refine wo_nil ?_
    refine wr_seq ?_
    refine wr_condF rfl (Int.lt_irrefl _) ?_
    refine wr_exit rfl ?_
    refine wr_seq ?_
    refine wr_region ?_
    refine wo_val (.int .i64 (-1)) rfl pv_assign ?_
    refine wo_nil ?_
    exact wr_ret (a := (-1)) (vs := [(.int .i64 (-1))]) Tryd.func60 hI rfl (.same _)

theorem cp_slices_Contains_int (s : (List Int)) (v : Int) : CP Tryd.prog 52 [(.sl 1 (List.map (rI .i64) s)), (.int .i64 v)] (slices_Contains_int s v) (fun (x : Bool) => (AV.bool x)) := by
  refine cp_intro (n := 9) 0 Tryd.func52 rfl (by decide) rfl rfl fun h0 ids hI => ?_
  refine wr_in (wr_mod (slices_Contains_int.eq_1 _ _) ?_)
  refine wr_seq ?_
  refine wr_region ?_
  refine wo_val (.bool false) rfl pv_assign ?_
  refine wo_nil ?_
  refine wr_seq ?_
  refine wr_region ?_
  refine wo_val (.sl 1 (List.map (rI .i64) s)) rfl pv_move ?_
  refine wo_val (.int .i64 v) rfl pv_move ?_
  refine of_call [(.sl 1 (List.map (rI .i64) s)), (.int .i64 v)] rfl rfl rfl rfl ((cp_slices_Index_int s v) _) (fun v _ => wu_pan Tryd.func52 hI) fun r _ => ?_
  refine wo_val (.bool (decide (r ≥ 0))) rfl (pv_bin rfl rfl rfl) ?_
  refine wo_val (.bool (decide (r ≥ 0))) rfl pv_assign ?_
  refine wo_nil ?_
  exact wr_ret (a := (decide (r ≥ 0))) (vs := [(.bool (decide (r ≥ 0)))]) Tryd.func52 hI rfl (.same _)

theorem cp_lex_scanner_run (s : T48) (some : (List Int)) : CP Tryd.prog 43 [(.cp (rT48 s) 0), (.sl 1 (List.map (rI .i64) some))] (lex_scanner_run s some) (fun (x : Str) => (AV.str x)) := by
  refine cp_intro (n := 40) 0 Tryd.func43 rfl (by decide) rfl rfl fun h0 ids hI => ?_
  refine wr_in (wr_mod (lex_scanner_run.eq_1 _ _) ?_)
  refine wr_seq ?_
  refine wr_region ?_
  refine wo_val (.str []) rfl pv_assign ?_
  refine wo_nil ?_
  refine wr_seq ?_
  refine wr_region ?_
  refine wo_val (.cp (rT48 s) 0) rfl pv_move ?_
  refine wo_val (.cp (rT48 s) 0) rfl (pv_nilCheck rfl) ?_
  refine wo_val (.cp (rT48 s) 1) rfl (pv_fa (fa_cp (c := 0) (off := 1) (i := 1) ti49 rfl ti3 rfl)) ?_
  refine wo_val (.int .i64 s.fAt) rfl (pv_load (ld_cp ti3 rfl)) ?_
  refine wo_val (.int .i64 s.fAt) rfl pv_assign ?_
  refine wo_nil ?_
  refine wr_seq ?_
  refine wf_join (fun n1 => lex_scanner_run_j1 s n1) (fun n1 => fun (fr : Nat → AV) (h : AHeap) => fr = frA [(0, (.cp (rT48 s) 0)), (5, (.int .i64 n1))] ∧ h = hp h0 ids []) ?_ fun hJ1 => ?_
  · rintro n1 fr h ⟨rfl, rfl⟩
    refine wr_mod (lex_scanner_run_j1.eq_1 _ _) ?_
    refine wr_seq ?_
    refine wr_draw hmix [[], [0], [0, 1], [0, 1, 2], [], [4], [4, 5], [4, 5, 6], [], [0, 1, 2, 3, 4, 5, 6, 7, 8], [0, 1, 2, 3, 4, 5, 6, 7, 8, 9, 9]] [(false, 0), (false, 1), (false, 2), (false, 3), (false, 4), (false, 5), (false, 6), (false, 7), (false, 8), (false, 9), (false, 10)] (by kernel_rfl) ?_
    refine wp_val (.cp (rT48 s) 0) rfl rfl pv_move ?_
    refine wp_val (.cp (rT48 s) 0) rfl rfl (pv_nilCheck rfl) ?_
    refine wp_val (.cp (rT48 s) 0) rfl rfl (pv_fa (fa_cp (c := 0) (off := 0) (i := 0) ti49 rfl ti9 rfl)) ?_
    refine wp_val (.str s.fSrc) rfl rfl (pv_load (ld_cp ti9 rfl)) ?_
    refine wp_val (.cp (rT48 s) 0) rfl rfl pv_move ?_
    refine wp_val (.cp (rT48 s) 0) rfl rfl (pv_nilCheck rfl) ?_
    refine wp_val (.cp (rT48 s) 1) rfl rfl (pv_fa (fa_cp (c := 0) (off := 1) (i := 1) ti49 rfl ti3 rfl)) ?_
    refine wp_val (.int .i64 s.fAt) rfl rfl (pv_load (ld_cp ti3 rfl)) ?_
    refine wp_val (.int .i64 n1) rfl rfl pv_move ?_
    refine op_need fun hs => ?_
    refine wp_val (.str (cut s.fSrc s.fAt n1)) rfl rfl (pv_slice (sl_str ti9 hs)) ?_
    refine wp_val (.str (cut s.fSrc s.fAt n1)) rfl rfl pv_assign ?_
    refine wp_nil ?_
    exact wr_ret (a := (cut s.fSrc s.fAt n1)) (vs := [(.str (cut s.fSrc s.fAt n1))]) Tryd.func43 hI rfl (.same _)
  · refine wr_block ?_
    refine wr_is [(0, (.cp (rT48 s) 0)), (1, (.sl 1 (List.map (rI .i64) some))), (5, (.int .i64 s.fAt))] (.cons rfl (.cons rfl (.cons rfl .nil))) ?_
    refine wf_loop' (P := Tryd.prog) (fun n => lex_scanner_run_b1 s some n) ((fun n1 => lex_scanner_run_j1 s n1) : Int → R Str)
      (fun n => fun (fr : Nat → AV) (h : AHeap) => fr = frA [(0, (.cp (rT48 s) 0)), (1, (.sl 1 (List.map (rI .i64) some))), (5, (.int .i64 n))] ∧ h = hp h0 ids []) s.fAt ?_ ?_
    · exact ⟨rfl, rfl⟩
    · rintro vW hW n fr h ⟨rfl, rfl⟩
      refine wr_mod (m' := lex_scanner_run_b1 s some n) rfl (wr_mod (lex_scanner_run_b1.eq_1 _ _ _) ?_)
      refine wr_seq ?_
      refine wr_seq ?_
      refine wr_region ?_
      refine wo_val (.int .i64 n) rfl pv_move ?_
      refine wo_val (.cp (rT48 s) 0) rfl pv_move ?_
      refine wo_val (.cp (rT48 s) 0) rfl (pv_nilCheck rfl) ?_
      refine wo_val (.cp (rT48 s) 0) rfl (pv_fa (fa_cp (c := 0) (off := 0) (i := 0) ti49 rfl ti9 rfl)) ?_
      refine wo_val (.str s.fSrc) rfl (pv_load (ld_cp ti9 rfl)) ?_
      refine wo_val (.int .i64 (s.fSrc.length : Int)) rfl (pv_len (len_str ti9)) ?_
      refine wo_val (.bool (decide (n < (s.fSrc.length : Int)))) rfl (pv_bin rfl rfl rfl) ?_
      refine wo_val (.bool (decide (n < (s.fSrc.length : Int)))) rfl pv_move ?_
      refine wo_join 10 ((fun (b : Bool) => if b then
(.ok (.inl (IntKind.wrap .i64 (n + 1))))
else
(.ok (.inr (n)))) : Bool → R (Int ⊕ Int)) (fun (b : Bool) (fr : Nat → AV) (h : AHeap) => fr = frA [(0, (.cp (rT48 s) 0)), (1, (.sl 1 (List.map (rI .i64) some))), (5, (.int .i64 n)), (27, (.bool b))] ∧ h = hp h0 ids []) ?_ fun hJ => of_if1 (fun hb1 => ?_) (fun hb1 => ?_)
      · rintro b fr h ⟨rfl, rfl⟩
        refine wo_nil ?_
        refine wf_iteb rfl (fun hc => ?_) (fun hc => ?_)
        · refine wr_skip ?_
          refine wr_block ?_
          refine wr_region ?_
          refine wo_val (.int .i64 n) rfl pv_move ?_
          refine wo_val (.int .i64 (IntKind.wrap .i64 (n + 1))) rfl (pv_bin rfl rfl rfl) ?_
          refine wo_val (.int .i64 (IntKind.wrap .i64 (n + 1))) rfl pv_assign ?_
          refine wo_nil ?_
          refine wr_inBlock ?_
          refine wr_is [(0, (.cp (rT48 s) 0)), (1, (.sl 1 (List.map (rI .i64) some))), (5, (.int .i64 (IntKind.wrap .i64 (n + 1))))] (.cons rfl (.cons rfl (.cons rfl .nil))) ?_
          refine wb_loop ?_
          refine hW (IntKind.wrap .i64 (n + 1)) _ _ ?_
          exact ⟨rfl, rfl⟩
        · refine wr_exit rfl ?_
          refine wx_loop ?_
          refine wr_is [(0, (.cp (rT48 s) 0)), (5, (.int .i64 n))] (.cons rfl (.cons rfl .nil)) ?_
          refine hJ1 n _ _ ?_
          exact ⟨rfl, rfl⟩
      · refine wo_valg (tj := 17) (.sl 1 (List.map (rI .i64) some)) rfl (congrArg AV.bool hb1) rfl pv_move ?_
        refine wo_valg (tj := 17) (.cp (rT48 s) 0) rfl (congrArg AV.bool hb1) rfl pv_move ?_
        refine wo_valg (tj := 17) (.cp (rT48 s) 0) rfl (congrArg AV.bool hb1) rfl (pv_nilCheck rfl) ?_
        refine wo_valg (tj := 17) (.cp (rT48 s) 0) rfl (congrArg AV.bool hb1) rfl (pv_fa (fa_cp (c := 0) (off := 0) (i := 0) ti49 rfl ti9 rfl)) ?_
        refine wo_valg (tj := 17) (.str s.fSrc) rfl (congrArg AV.bool hb1) rfl (pv_load (ld_cp ti9 rfl)) ?_
        refine wo_valg (tj := 17) (.int .i64 n) rfl (congrArg AV.bool hb1) rfl pv_move ?_
        refine of_idx fun a hz hx1 => ?_
        refine wo_valg (tj := 17) (.int .u8 (a.toNat : Int)) rfl (congrArg AV.bool hb1) rfl (pv_ix (ix_str ti9 hz hx1)) ?_
        refine of_call [(.int .u8 (a.toNat : Int))] rfl (wanted_yes (tj := 17) rfl (congrArg AV.bool hb1)) rfl rfl ((cp_lex_class (a.toNat : Int)) _) (fun v _ => wu_pan Tryd.func43 hI) fun r _ => ?_
        refine of_call [(.sl 1 (List.map (rI .i64) some)), (.int .i64 r)] rfl (wanted_yes (tj := 17) rfl (congrArg AV.bool hb1)) rfl rfl ((cp_slices_Contains_int some r) _) (fun v _ => wu_pan Tryd.func43 hI) fun r1 _ => ?_
        refine wo_val (.bool r1) rfl (pv_pick (t := true) (congrArg AV.bool hb1) rfl) ?_
        refine wo_back1 ?_
        refine wo_is [(0, (.cp (rT48 s) 0)), (1, (.sl 1 (List.map (rI .i64) some))), (5, (.int .i64 n)), (27, (.bool r1))] (.cons rfl (.cons rfl (.cons rfl (.cons rfl .nil)))) ?_
        exact hJ r1 _ _ ⟨rfl, rfl⟩
      · refine wo_not (tj := 17) (b := false) rfl (congrArg AV.bool hb1) rfl rfl ?_
        refine wo_not (tj := 17) (b := false) rfl (congrArg AV.bool hb1) rfl rfl ?_
        refine wo_not (tj := 17) (b := false) rfl (congrArg AV.bool hb1) rfl rfl ?_
        refine wo_not (tj := 17) (b := false) rfl (congrArg AV.bool hb1) rfl rfl ?_
        refine wo_not (tj := 17) (b := false) rfl (congrArg AV.bool hb1) rfl rfl ?_
        refine wo_not (tj := 17) (b := false) rfl (congrArg AV.bool hb1) rfl rfl ?_
        refine wo_not (tj := 17) (b := false) rfl (congrArg AV.bool hb1) rfl rfl ?_
        refine wo_not (tj := 17) (b := false) rfl (congrArg AV.bool hb1) rfl rfl ?_
        refine wo_not (tj := 17) (b := false) rfl (congrArg AV.bool hb1) rfl rfl ?_
        refine wo_val (.bool false) rfl (pv_pick (t := false) (congrArg AV.bool hb1) rfl) ?_
        refine wo_back1 ?_
        refine wo_is [(0, (.cp (rT48 s) 0)), (1, (.sl 1 (List.map (rI .i64) some))), (5, (.int .i64 n)), (27, (.bool false))] (.cons rfl (.cons rfl (.cons rfl (.cons rfl .nil)))) ?_
        exact hJ false _ _ ⟨rfl, rfl⟩

theorem cp_lex_Name (s : Str) : CP Tryd.prog 20 [(.str s)] (lex_Name s) (fun (x : Bool) => (AV.bool x)) := by
  refine cp_intro (n := 38) 0 Tryd.func20 rfl (by decide) rfl rfl fun h0 ids hI => ?_
  refine wr_in (wr_mod (lex_Name.eq_1 _) ?_)
  refine wr_seq ?_
  refine wr_region ?_
  refine wo_val (.bool false) rfl pv_assign ?_
  refine wo_nil ?_
  refine wr_seq ?_
  refine wr_seq ?_
  refine wr_region ?_
  refine wo_val (.str s) rfl pv_move ?_
  refine wo_val (.bool (s == [])) rfl (pv_bin rfl rfl rfl) ?_
  refine wo_val (.bool (s == [])) rfl pv_move ?_
  refine wo_meet 4 [(0, (.str s)), (11, (.bool ((s == []) || (decide ((s.length : Int) > 32)))))] ?_ fun hJ => wo_cases (s == []) (fun hb1 => ?_) (fun hb1 => ?_)
  · refine wo_val (.bool ((s == []) || (decide ((s.length : Int) > 32)))) rfl pv_move ?_
    refine wo_join 5 ((fun (b : Bool) => if b then
(.ok false)
else
(if s.length ≤ LIM then
((each (fun _ a1 => fun _ => lex_Name_b1 a1) 0 s ()).bind (alt (fun _ => .ok true) (fun r => .ok r))) else .bad)) : Bool → R Bool) (fun (b : Bool) (fr : Nat → AV) (h : AHeap) => fr = frA [(0, (.str s)), (17, (.bool b))] ∧ h = hp h0 ids []) ?_ fun hJ1 => of_if1 (fun hb3 => ?_) (fun hb3 => ?_)
    · rintro b fr h ⟨rfl, rfl⟩
      refine wo_nil ?_
      refine wf_iteb rfl (fun hc => ?_) (fun hc => ?_)
      · refine wr_seq ?_
        refine wr_region ?_
        refine wo_val (.bool false) rfl pv_assign ?_
        refine wo_nil ?_
        exact wr_ret (a := false) (vs := [(.bool false)]) Tryd.func20 hI rfl (.same _)
      · refine wr_skip ?_
        refine wr_seq ?_
        refine wr_seq ?_
        refine wr_region ?_
        refine wo_val (.str s) rfl pv_move ?_
        refine wo_val (.int .i64 (s.length : Int)) rfl (pv_len (len_str ti9)) ?_
        refine wo_val (.int .i64 0) rfl pv_move ?_
        refine wo_nil ?_
        refine wr_block ?_
        refine wr_need fun hlim => ?_
        refine wr_is [(0, (.str s)), (19, (.int .i64 (s.length : Int))), (20, (.int .i64 0))] (.cons rfl (.cons rfl (.cons rfl .nil))) ?_
        refine wf_each' (P := Tryd.prog) s (fun _ a1 => fun _ => lex_Name_b1 a1) ((alt (fun _ => .ok true) (fun r => .ok r)) : (Unit ⊕ Bool) → R Bool)
          (fun j => fun _ => fun (fr : Nat → AV) (h : AHeap) => fr = frA [(0, (.str s)), (19, (.int .i64 (s.length : Int))), (20, (.int .i64 (j : Int)))] ∧ h = hp h0 ids []) () ?_ ?_ ?_
        · exact ⟨rfl, rfl⟩
        · rintro j a1 ha1 W hW _ fr h ⟨rfl, rfl⟩
          refine wr_mod (m' := lex_Name_b1 a1) rfl (wr_mod (lex_Name_b1.eq_1 _) ?_)
          refine wr_seq ?_
          refine wr_region ?_
          refine wo_val (.bool (decide ((j : Int) < (s.length : Int)))) rfl (pv_bin rfl rfl rfl) ?_
          refine wo_nil ?_
          refine wr_seq ?_
          refine wr_condT rfl (Int.ofNat_lt.2 (lt_of_get ha1)) ?_
          refine wr_skip ?_
          refine wr_seq ?_
          refine wr_block ?_
          refine wr_seq ?_
          refine wr_region ?_
          refine wo_val (.int .i64 (j : Int)) rfl pv_move ?_
          refine wo_val (.int .i64 (j : Int)) rfl pv_assign ?_
          refine wo_nil ?_
          refine wr_seq ?_
          refine wr_region ?_
          refine wo_val (.str s) rfl pv_move ?_
          refine wo_val (.int .i64 (j : Int)) rfl pv_move ?_
          refine wo_val (.int .u8 (a1.toNat : Int)) rfl (pv_ix (ix_strn ti9 ha1)) ?_
          refine of_call [(.int .u8 (a1.toNat : Int))] rfl rfl rfl rfl ((cp_lex_class (a1.toNat : Int)) _) (fun v _ => wu_pan Tryd.func20 hI) fun c _ => ?_
          refine wo_val (.int .i64 c) rfl pv_assign ?_
          refine wo_nil ?_
          refine wr_seq ?_
          refine wr_region ?_
          refine wo_val (.int .i64 c) rfl pv_move ?_
          refine wo_val (.bool (c != 2)) rfl (pv_bin rfl rfl rfl) ?_
          refine wo_val (.bool (c != 2)) rfl pv_move ?_
          refine wo_meet 3 [(0, (.str s)), (4, (.int .i64 c)), (19, (.int .i64 (s.length : Int))), (20, (.int .i64 (j : Int))), (32, (.bool ((c != 2) && (c != 3))))] ?_ fun hJ2 => wo_cases (c != 2) (fun hb5 => ?_) (fun hb5 => ?_)
          · refine wo_val (.bool ((c != 2) && (c != 3))) rfl pv_move ?_
            refine wo_meet 3 [(0, (.str s)), (19, (.int .i64 (s.length : Int))), (20, (.int .i64 (j : Int))), (36, (.bool (((c != 2) && (c != 3)) && (c != 5))))] ?_ fun hJ3 => wo_cases ((c != 2) && (c != 3)) (fun hb7 => ?_) (fun hb7 => ?_)
            · refine wo_nil ?_
              refine wf_iteb rfl (fun hc1 => ?_) (fun hc1 => ?_)
              · refine wr_seq ?_
                refine wr_region ?_
                refine wo_val (.bool false) rfl pv_assign ?_
                refine wo_nil ?_
                refine wx_each ?_
                refine w_altr ?_
                exact wr_ret (a := false) (vs := [(.bool false)]) Tryd.func20 hI rfl (.same _)
              · refine wr_skip ?_
                refine wr_inBlock ?_
                refine wr_region ?_
                refine wo_val (.int .i64 (IntKind.wrap .i64 ((j : Int) + 1))) rfl (pv_bin rfl rfl rfl) ?_
                refine wo_val (.int .i64 (IntKind.wrap .i64 ((j : Int) + 1))) rfl pv_move ?_
                refine wo_nil ?_
                refine wr_is [(0, (.str s)), (19, (.int .i64 (s.length : Int))), (20, (.int .i64 ((j + 1 : Nat) : Int)))] (.cons rfl (.cons rfl (.cons (inc_ok (lt_of_get ha1) hlim) .nil))) ?_
                refine wb_each ?_
                refine hW () _ _ ?_
                exact ⟨rfl, rfl⟩
            · refine wo_valg (tj := 33) (.int .i64 c) rfl (congrArg AV.bool hb7) rfl pv_move ?_
              refine wo_valg (tj := 33) (.bool (c != 5)) rfl (congrArg AV.bool hb7) rfl (pv_bin rfl rfl rfl) ?_
              refine wo_val (.bool (c != 5)) rfl (pv_pick (t := true) (congrArg AV.bool hb7) rfl) ?_
              exact wo_is [(0, (.str s)), (19, (.int .i64 (s.length : Int))), (20, (.int .i64 (j : Int))), (36, (.bool (((c != 2) && (c != 3)) && (c != 5))))] (.cons rfl (.cons rfl (.cons rfl (.cons (and_t hb7) .nil)))) hJ3
            · refine wo_not (tj := 33) (b := false) rfl (congrArg AV.bool hb7) rfl rfl ?_
              refine wo_not (tj := 33) (b := false) rfl (congrArg AV.bool hb7) rfl rfl ?_
              refine wo_val (.bool false) rfl (pv_pick (t := false) (congrArg AV.bool hb7) rfl) ?_
              exact wo_is [(0, (.str s)), (19, (.int .i64 (s.length : Int))), (20, (.int .i64 (j : Int))), (36, (.bool (((c != 2) && (c != 3)) && (c != 5))))] (.cons rfl (.cons rfl (.cons rfl (.cons (and_f hb7) .nil)))) hJ3
          · refine wo_valg (tj := 29) (.int .i64 c) rfl (congrArg AV.bool hb5) rfl pv_move ?_
            refine wo_valg (tj := 29) (.bool (c != 3)) rfl (congrArg AV.bool hb5) rfl (pv_bin rfl rfl rfl) ?_
            refine wo_val (.bool (c != 3)) rfl (pv_pick (t := true) (congrArg AV.bool hb5) rfl) ?_
            exact wo_is [(0, (.str s)), (4, (.int .i64 c)), (19, (.int .i64 (s.length : Int))), (20, (.int .i64 (j : Int))), (32, (.bool ((c != 2) && (c != 3))))] (.cons rfl (.cons rfl (.cons rfl (.cons rfl (.cons (and_t hb5) .nil))))) hJ2
          · refine wo_not (tj := 29) (b := false) rfl (congrArg AV.bool hb5) rfl rfl ?_
            refine wo_not (tj := 29) (b := false) rfl (congrArg AV.bool hb5) rfl rfl ?_
            refine wo_val (.bool false) rfl (pv_pick (t := false) (congrArg AV.bool hb5) rfl) ?_
            exact wo_is [(0, (.str s)), (4, (.int .i64 c)), (19, (.int .i64 (s.length : Int))), (20, (.int .i64 (j : Int))), (32, (.bool ((c != 2) && (c != 3))))] (.cons rfl (.cons rfl (.cons rfl (.cons rfl (.cons (and_f hb5) .nil))))) hJ2
        · rintro _ fr h ⟨rfl, rfl⟩
          refine wr_mod (alt_inl _ _ _) ?_
          refine wr_seq ?_
          refine wr_region ?_
          refine wo_val (.bool (decide ((s.length : Int) < (s.length : Int)))) rfl (pv_bin rfl rfl rfl) ?_
          refine wo_nil ?_
          refine wr_seq ?_
          refine wr_condF rfl (Int.lt_irrefl _) ?_
          refine wr_exit rfl ?_
          refine wr_seq ?_
          refine wr_region ?_
          refine wo_val (.bool true) rfl pv_assign ?_
          refine wo_nil ?_
          exact wr_ret (a := true) (vs := [(.bool true)]) Tryd.func20 hI rfl (.same _)
    · refine wo_not (tj := 12) (b := true) rfl (congrArg AV.bool hb3) rfl rfl ?_
      refine wo_not (tj := 12) (b := true) rfl (congrArg AV.bool hb3) rfl rfl ?_
      refine wo_not (tj := 12) (b := true) rfl (congrArg AV.bool hb3) rfl rfl ?_
      refine wo_not (tj := 12) (b := true) rfl (congrArg AV.bool hb3) rfl rfl ?_
      refine wo_val (.bool true) rfl (pv_pick (t := true) (congrArg AV.bool hb3) rfl) ?_
      refine wo_back1 ?_
      refine wo_is [(0, (.str s)), (17, (.bool true))] (.cons rfl (.cons rfl .nil)) ?_
      exact hJ1 true _ _ ⟨rfl, rfl⟩
    · refine wo_valg (tj := 12) (.str s) rfl (congrArg AV.bool hb3) rfl pv_move ?_
      refine of_idx fun a hz hx1 => ?_
      refine wo_valg (tj := 12) (.int .u8 (a.toNat : Int)) rfl (congrArg AV.bool hb3) rfl (pv_ix (ix_str ti9 hz hx1)) ?_
      refine of_call [(.int .u8 (a.toNat : Int))] rfl (wanted_yes (tj := 12) rfl (congrArg AV.bool hb3)) rfl rfl ((cp_lex_class (a.toNat : Int)) _) (fun v _ => wu_pan Tryd.func20 hI) fun r _ => ?_
      refine wo_valg (tj := 12) (.bool (r != 2)) rfl (congrArg AV.bool hb3) rfl (pv_bin rfl rfl rfl) ?_
      refine wo_val (.bool (r != 2)) rfl (pv_pick (t := false) (congrArg AV.bool hb3) rfl) ?_
      refine wo_back1 ?_
      refine wo_is [(0, (.str s)), (17, (.bool (r != 2)))] (.cons rfl (.cons rfl .nil)) ?_
      exact hJ1 (r != 2) _ _ ⟨rfl, rfl⟩
  · refine wo_not (tj := 7) (b := true) rfl (congrArg AV.bool hb1) rfl rfl ?_
    refine wo_not (tj := 7) (b := true) rfl (congrArg AV.bool hb1) rfl rfl ?_
    refine wo_not (tj := 7) (b := true) rfl (congrArg AV.bool hb1) rfl rfl ?_
    refine wo_val (.bool true) rfl (pv_pick (t := true) (congrArg AV.bool hb1) rfl) ?_
    exact wo_is [(0, (.str s)), (11, (.bool ((s == []) || (decide ((s.length : Int) > 32)))))] (.cons rfl (.cons (or_t hb1) .nil)) hJ
  · refine wo_valg (tj := 7) (.str s) rfl (congrArg AV.bool hb1) rfl pv_move ?_
    refine wo_valg (tj := 7) (.int .i64 (s.length : Int)) rfl (congrArg AV.bool hb1) rfl (pv_len (len_str ti9)) ?_
    refine wo_valg (tj := 7) (.bool (decide ((s.length : Int) > 32))) rfl (congrArg AV.bool hb1) rfl (pv_bin rfl rfl rfl) ?_
    refine wo_val (.bool (decide ((s.length : Int) > 32))) rfl (pv_pick (t := false) (congrArg AV.bool hb1) rfl) ?_
    exact wo_is [(0, (.str s)), (11, (.bool ((s == []) || (decide ((s.length : Int) > 32)))))] (.cons rfl (.cons (or_f hb1) .nil)) hJ

theorem cp_lex_valid (t : Token) : CP Tryd.prog 36 [(.agg (rToken t))] (lex_valid t) (fun (x : Bool) => (AV.bool x)) := by
  refine cp_intro (n := 48) 1 Tryd.func36 rfl (by decide) rfl rfl fun h0 ids hI => ?_
  refine wr_in (wr_mod (lex_valid.eq_1 _) ?_)
  refine wr_seq ?_
  refine wr_region ?_
  refine wo_box (v := (.agg (rToken t))) (j := 0) hI rfl rfl rfl rfl rfl rfl rfl fun g => ?_
  refine wo_val (.bool false) rfl pv_assign ?_
  refine wo_nil ?_
  refine wr_hp [(some (.rows g 4 [(rToken t)]))] rfl ?_
  refine wr_seq ?_
  refine wr_seq ?_
  refine wr_region ?_
  refine wo_val (.ptr (ix ids 0) g 0 0) rfl (pv_fa (fa_ptr (c := 0) (off := 0) (i := 0) ti35 rfl ti3 rfl)) ?_
  refine wo_val (.int .i64 t.Kind) rfl (pv_load (ld_ptr hI rfl rfl rfl ti3 rfl)) ?_
  refine wo_nil ?_
  refine wr_block ?_
  refine wr_seq ?_
  refine wr_region ?_
  refine wo_val (.bool (t.Kind == 1)) rfl (pv_bin rfl rfl rfl) ?_
  refine wo_val (.bool (t.Kind == 1)) rfl pv_assign ?_
  refine wo_nil ?_
  refine wf_iteb rfl (fun hc => ?_) (fun hc => ?_)
  · refine wr_seq ?_
    refine wr_region ?_
    refine wo_val (.ptr (ix ids 0) g 0 1) rfl (pv_fa (fa_ptr (c := 0) (off := 1) (i := 1) ti35 rfl ti9 rfl)) ?_
    refine wo_val (.str t.Text) rfl (pv_load (ld_ptr hI rfl rfl rfl ti9 rfl)) ?_
    refine of_call [(.str t.Text)] rfl rfl rfl rfl ((cp_lex_Name t.Text) _) (fun v _ => wu_pan Tryd.func36 hI) fun r _ => ?_
    refine wo_val (.bool r) rfl pv_move ?_
    refine wo_meet 4 [(14, (.bool (r && (t.N == 0))))] ?_ fun hJ => wo_cases r (fun hb1 => ?_) (fun hb1 => ?_)
    · refine wo_val (.bool (r && (t.N == 0))) rfl pv_assign ?_
      refine wo_nil ?_
      exact wr_ret (a := (r && (t.N == 0))) (vs := [(.bool (r && (t.N == 0)))]) Tryd.func36 hI rfl (.same _)
    · refine wo_valg (tj := 10) (.ptr (ix ids 0) g 0 2) rfl (congrArg AV.bool hb1) rfl (pv_fa (fa_ptr (c := 0) (off := 2) (i := 2) ti35 rfl ti3 rfl)) ?_
      refine wo_valg (tj := 10) (.int .i64 t.N) rfl (congrArg AV.bool hb1) rfl (pv_load (ld_ptr hI rfl rfl rfl ti3 rfl)) ?_
      refine wo_valg (tj := 10) (.bool (t.N == 0)) rfl (congrArg AV.bool hb1) rfl (pv_bin rfl rfl rfl) ?_
      refine wo_val (.bool (t.N == 0)) rfl (pv_pick (t := true) (congrArg AV.bool hb1) rfl) ?_
      exact wo_is [(14, (.bool (r && (t.N == 0))))] (.cons (and_t hb1) .nil) hJ
    · refine wo_not (tj := 10) (b := false) rfl (congrArg AV.bool hb1) rfl rfl ?_
      refine wo_not (tj := 10) (b := false) rfl (congrArg AV.bool hb1) rfl rfl ?_
      refine wo_not (tj := 10) (b := false) rfl (congrArg AV.bool hb1) rfl rfl ?_
      refine wo_val (.bool false) rfl (pv_pick (t := false) (congrArg AV.bool hb1) rfl) ?_
      exact wo_is [(14, (.bool (r && (t.N == 0))))] (.cons (and_f hb1) .nil) hJ
  · refine wr_seq ?_
    refine wr_region ?_
    refine wo_val (.bool (t.Kind == 2)) rfl (pv_bin rfl rfl rfl) ?_
    refine wo_val (.bool (t.Kind == 2)) rfl pv_assign ?_
    refine wo_nil ?_
    refine wf_iteb rfl (fun hc1 => ?_) (fun hc1 => ?_)
    · refine wr_seq ?_
      refine wr_region ?_
      refine wo_val (.ptr (ix ids 0) g 0 1) rfl (pv_fa (fa_ptr (c := 0) (off := 1) (i := 1) ti35 rfl ti9 rfl)) ?_
      refine wo_val (.str t.Text) rfl (pv_load (ld_ptr hI rfl rfl rfl ti9 rfl)) ?_
      refine wo_val (.bool (t.Text == [])) rfl (pv_bin rfl rfl rfl) ?_
      refine wo_val (.bool (t.Text == [])) rfl pv_move ?_
      refine wo_meet 4 [(1, (.ptr (ix ids 0) g 0 0)), (24, (.bool ((t.Text == []) && (decide (t.N ≥ 0)))))] ?_ fun hJ1 => wo_cases (t.Text == []) (fun hb3 => ?_) (fun hb3 => ?_)
      · refine wo_val (.bool ((t.Text == []) && (decide (t.N ≥ 0)))) rfl pv_move ?_
        refine wo_meet 4 [(29, (.bool (((t.Text == []) && (decide (t.N ≥ 0))) && (decide (t.N ≤ 1099511627776)))))] ?_ fun hJ2 => wo_cases ((t.Text == []) && (decide (t.N ≥ 0))) (fun hb5 => ?_) (fun hb5 => ?_)
        · refine wo_val (.bool (((t.Text == []) && (decide (t.N ≥ 0))) && (decide (t.N ≤ 1099511627776)))) rfl pv_assign ?_
          refine wo_nil ?_
          exact wr_ret (a := (((t.Text == []) && (decide (t.N ≥ 0))) && (decide (t.N ≤ 1099511627776)))) (vs := [(.bool (((t.Text == []) && (decide (t.N ≥ 0))) && (decide (t.N ≤ 1099511627776))))]) Tryd.func36 hI rfl (.same _)
        · refine wo_valg (tj := 25) (.ptr (ix ids 0) g 0 2) rfl (congrArg AV.bool hb5) rfl (pv_fa (fa_ptr (c := 0) (off := 2) (i := 2) ti35 rfl ti3 rfl)) ?_
          refine wo_valg (tj := 25) (.int .i64 t.N) rfl (congrArg AV.bool hb5) rfl (pv_load (ld_ptr hI rfl rfl rfl ti3 rfl)) ?_
          refine wo_valg (tj := 25) (.bool (decide (t.N ≤ 1099511627776))) rfl (congrArg AV.bool hb5) rfl (pv_bin rfl rfl rfl) ?_
          refine wo_val (.bool (decide (t.N ≤ 1099511627776))) rfl (pv_pick (t := true) (congrArg AV.bool hb5) rfl) ?_
          exact wo_is [(29, (.bool (((t.Text == []) && (decide (t.N ≥ 0))) && (decide (t.N ≤ 1099511627776)))))] (.cons (and_t hb5) .nil) hJ2
        · refine wo_not (tj := 25) (b := false) rfl (congrArg AV.bool hb5) rfl rfl ?_
          refine wo_not (tj := 25) (b := false) rfl (congrArg AV.bool hb5) rfl rfl ?_
          refine wo_not (tj := 25) (b := false) rfl (congrArg AV.bool hb5) rfl rfl ?_
          refine wo_val (.bool false) rfl (pv_pick (t := false) (congrArg AV.bool hb5) rfl) ?_
          exact wo_is [(29, (.bool (((t.Text == []) && (decide (t.N ≥ 0))) && (decide (t.N ≤ 1099511627776)))))] (.cons (and_f hb5) .nil) hJ2
      · refine wo_valg (tj := 20) (.ptr (ix ids 0) g 0 2) rfl (congrArg AV.bool hb3) rfl (pv_fa (fa_ptr (c := 0) (off := 2) (i := 2) ti35 rfl ti3 rfl)) ?_
        refine wo_valg (tj := 20) (.int .i64 t.N) rfl (congrArg AV.bool hb3) rfl (pv_load (ld_ptr hI rfl rfl rfl ti3 rfl)) ?_
        refine wo_valg (tj := 20) (.bool (decide (t.N ≥ 0))) rfl (congrArg AV.bool hb3) rfl (pv_bin rfl rfl rfl) ?_
        refine wo_val (.bool (decide (t.N ≥ 0))) rfl (pv_pick (t := true) (congrArg AV.bool hb3) rfl) ?_
        exact wo_is [(1, (.ptr (ix ids 0) g 0 0)), (24, (.bool ((t.Text == []) && (decide (t.N ≥ 0)))))] (.cons rfl (.cons (and_t hb3) .nil)) hJ1
      · refine wo_not (tj := 20) (b := false) rfl (congrArg AV.bool hb3) rfl rfl ?_
        refine wo_not (tj := 20) (b := false) rfl (congrArg AV.bool hb3) rfl rfl ?_
        refine wo_not (tj := 20) (b := false) rfl (congrArg AV.bool hb3) rfl rfl ?_
        refine wo_val (.bool false) rfl (pv_pick (t := false) (congrArg AV.bool hb3) rfl) ?_
        exact wo_is [(1, (.ptr (ix ids 0) g 0 0)), (24, (.bool ((t.Text == []) && (decide (t.N ≥ 0)))))] (.cons rfl (.cons (and_f hb3) .nil)) hJ1
    · refine wr_seq ?_
      refine wr_region ?_
      refine wo_val (.bool (t.Kind == 3)) rfl (pv_bin rfl rfl rfl) ?_
      refine wo_val (.bool (t.Kind == 3)) rfl pv_assign ?_
      refine wo_nil ?_
      refine wf_iteb rfl (fun hc2 => ?_) (fun hc2 => ?_)
      · refine wr_seq ?_
        refine wr_region ?_
        refine wo_val (.ptr (ix ids 0) g 0 1) rfl (pv_fa (fa_ptr (c := 0) (off := 1) (i := 1) ti35 rfl ti9 rfl)) ?_
        refine wo_val (.str t.Text) rfl (pv_load (ld_ptr hI rfl rfl rfl ti9 rfl)) ?_
        refine wo_val (.int .i64 (t.Text.length : Int)) rfl (pv_len (len_str ti9)) ?_
        refine wo_val (.bool ((t.Text.length : Int) == 1)) rfl (pv_bin rfl rfl rfl) ?_
        refine wo_val (.bool ((t.Text.length : Int) == 1)) rfl pv_move ?_
        refine wo_join 6 ((fun (b : Bool) => .ok (b && (t.N == 0))) : Bool → R Bool) (fun (b : Bool) (fr : Nat → AV) (h : AHeap) => fr = frA [(1, (.ptr (ix ids 0) g 0 0)), (42, (.bool b))] ∧ h = hp h0 ids [(some (.rows g 4 [(rToken t)]))]) ?_ fun hJ3 => of_if1 (fun hb7 => ?_) (fun hb7 => ?_)
        · rintro b fr h ⟨rfl, rfl⟩
          refine wo_val (.bool b) rfl pv_move ?_
          refine wo_meet 4 [(47, (.bool (b && (t.N == 0))))] ?_ fun hJ4 => wo_cases b (fun hb9 => ?_) (fun hb9 => ?_)
          · refine wo_val (.bool (b && (t.N == 0))) rfl pv_assign ?_
            refine wo_nil ?_
            exact wr_ret (a := (b && (t.N == 0))) (vs := [(.bool (b && (t.N == 0)))]) Tryd.func36 hI rfl (.same _)
          · refine wo_valg (tj := 43) (.ptr (ix ids 0) g 0 2) rfl (congrArg AV.bool hb9) rfl (pv_fa (fa_ptr (c := 0) (off := 2) (i := 2) ti35 rfl ti3 rfl)) ?_
            refine wo_valg (tj := 43) (.int .i64 t.N) rfl (congrArg AV.bool hb9) rfl (pv_load (ld_ptr hI rfl rfl rfl ti3 rfl)) ?_
            refine wo_valg (tj := 43) (.bool (t.N == 0)) rfl (congrArg AV.bool hb9) rfl (pv_bin rfl rfl rfl) ?_
            refine wo_val (.bool (t.N == 0)) rfl (pv_pick (t := true) (congrArg AV.bool hb9) rfl) ?_
            exact wo_is [(47, (.bool (b && (t.N == 0))))] (.cons (and_t hb9) .nil) hJ4
          · refine wo_not (tj := 43) (b := false) rfl (congrArg AV.bool hb9) rfl rfl ?_
            refine wo_not (tj := 43) (b := false) rfl (congrArg AV.bool hb9) rfl rfl ?_
            refine wo_not (tj := 43) (b := false) rfl (congrArg AV.bool hb9) rfl rfl ?_
            refine wo_val (.bool false) rfl (pv_pick (t := false) (congrArg AV.bool hb9) rfl) ?_
            exact wo_is [(47, (.bool (b && (t.N == 0))))] (.cons (and_f hb9) .nil) hJ4
        · refine wo_valg (tj := 36) (.ptr (ix ids 0) g 0 1) rfl (congrArg AV.bool hb7) rfl (pv_fa (fa_ptr (c := 0) (off := 1) (i := 1) ti35 rfl ti9 rfl)) ?_
          refine wo_valg (tj := 36) (.str t.Text) rfl (congrArg AV.bool hb7) rfl (pv_load (ld_ptr hI rfl rfl rfl ti9 rfl)) ?_
          refine of_idx fun a hz hx1 => ?_
          refine wo_valg (tj := 36) (.int .u8 (a.toNat : Int)) rfl (congrArg AV.bool hb7) rfl (pv_ix (ix_str ti9 hz hx1)) ?_
          refine of_call [(.int .u8 (a.toNat : Int))] rfl (wanted_yes (tj := 36) rfl (congrArg AV.bool hb7)) rfl rfl ((cp_lex_class (a.toNat : Int)) _) (fun v _ => wu_pan Tryd.func36 hI) fun r1 _ => ?_
          refine wo_valg (tj := 36) (.bool (r1 == 4)) rfl (congrArg AV.bool hb7) rfl (pv_bin rfl rfl rfl) ?_
          refine wo_val (.bool (r1 == 4)) rfl (pv_pick (t := true) (congrArg AV.bool hb7) rfl) ?_
          refine wo_back1 ?_
          refine wo_is [(1, (.ptr (ix ids 0) g 0 0)), (42, (.bool (r1 == 4)))] (.cons rfl (.cons rfl .nil)) ?_
          exact hJ3 (r1 == 4) _ _ ⟨rfl, rfl⟩
        · refine wo_not (tj := 36) (b := false) rfl (congrArg AV.bool hb7) rfl rfl ?_
          refine wo_not (tj := 36) (b := false) rfl (congrArg AV.bool hb7) rfl rfl ?_
          refine wo_not (tj := 36) (b := false) rfl (congrArg AV.bool hb7) rfl rfl ?_
          refine wo_not (tj := 36) (b := false) rfl (congrArg AV.bool hb7) rfl rfl ?_
          refine wo_not (tj := 36) (b := false) rfl (congrArg AV.bool hb7) rfl rfl ?_
          refine wo_val (.bool false) rfl (pv_pick (t := false) (congrArg AV.bool hb7) rfl) ?_
          refine wo_back1 ?_
          refine wo_is [(1, (.ptr (ix ids 0) g 0 0)), (42, (.bool false))] (.cons rfl (.cons rfl .nil)) ?_
          exact hJ3 false _ _ ⟨rfl, rfl⟩
      · refine wr_skip ?_
        refine wr_inBlock ?_
        refine wr_seq ?_
        refine wr_region ?_
        refine wo_val (.bool false) rfl pv_assign ?_
        refine wo_nil ?_
        exact wr_ret (a := false) (vs := [(.bool false)]) Tryd.func36 hI rfl (.same _)

theorem cg_strconv_Atoi (s : Str) (h0 : AHeap) (hI0 : Ids h0 [] 0) : strconv_Atoi s ≠ .bad → ACalls Tryd.prog 45 [.str s] (hp h0 [] []) (AnsG (fun a_ v h' => ∃ (v1 : AV), IsErr v1 a_.2 ∧ v = (.tup [.int .i64 a_.1, v1]) ∧ h' = hp h0 [] []) h0 (strconv_Atoi s)) := by
  refine cg_lib (.mk Tryd.func45 rfl (by decide)) (fun p h => by unfold strconv_Atoi at h; split at h <;> (try split at h) <;> cases h) fun a ha B mu w cargs hs hl => ?_
  obtain ⟨c1, rfl, h1⟩ := lrv_one hl
  obtain rfl := rv_str h1
  have rv_tup : ∀ {w : World} {n : Int} {v : AV} {c : Value}, RV h0 mu w v c → RV h0 mu w (.tup [.int .i64 n, v]) (.tuple #[.int .i64 n, c]) := fun hv => by
    refine .tup _ [_, _] rfl fun i hi => ?_
    match i, hi with
    | 0, _ => exact .int _ _
    | 1, _ => exact hv
  have err : ∀ {w w' : World} {N : Nat} {x y z : Value} {t : TypeId}, w.heap.size ≤ N → w'.heap[N]? = some (.cells #[x, y, z] t (0, 0)) → Sim B mu h0 w → RV h0 mu w' (.iface 79 (.cp [.any, .any, .any] 0)) (.iface 79 (.pointer (some ⟨N, 0, none⟩))) := by
    intro w w' N x y z t hN hc hs
    refine .iface _ _ _ (.cp _ 0 N 0 (fun j => [x, y, z].getD j undef) (fun j hj => ?_) (fun j hj => ?_) (fun hm => ?_) ?_)
    · unfold World.cell?; rw [hc]
      match j, hj with
      | 0, _ => rfl
      | 1, _ => rfl
      | 2, _ => rfl
    · match j, hj with
      | 0, _ => exact .any _
      | 1, _ => exact .any _
      | 2, _ => exact .any _
    · have := Mut.lt hs hm; omega
    · rcases Nat.lt_or_ge N _ with hh | hh
      · exact hh
      · rw [Array.getElem?_eq_none hh] at hc; cases hc
  unfold strconv_Atoi at ha
  split at ha
  · rename_i hn
    split at ha
    · rename_i v hv
      cases ha
      refine (Go.Proofs.Tryd.strconv_Atoi_ok ⟨s.toArray⟩ (by show s.toArray.size ≤ _; simp; omega) v hv w).mono ?_
      rintro e w' ⟨rfl, hw⟩
      refine ⟨?_, _, _, rfl, ⟨.nili, rfl, rfl, rfl⟩, rv_tup .nili⟩
      rcases hw with rfl | ⟨t, rfl⟩
      · exact Go.RowKit.Below.refl _ _
      · exact Lib.bytesWorld_below _ _ _
    · rename_i hv
      cases ha
      obtain ⟨tp, p, hp⟩ := gw_ErrSyntax hs.glob.2
      refine (Go.Proofs.Tryd.strconv_Atoi_syntax_var ⟨s.toArray⟩ (by show s.toArray.size ≤ _; simpa using hn) hv tp p w hp).mono ?_
      rintro e w' ⟨N, rfl, h1, h2, h3⟩
      exact ⟨h3, _, _, rfl, ⟨.iface 79 (.cp [.any, .any, .any] 0), ⟨_, _, rfl⟩, rfl, rfl⟩, rv_tup (err h1 h2 hs)⟩
    · rename_i hv
      cases ha
      obtain ⟨tp, p, hp⟩ := gw_ErrRange hs.glob.2
      refine (Go.Proofs.Tryd.strconv_Atoi_range_var ⟨s.toArray⟩ (by show s.toArray.size ≤ _; simpa using hn) hv tp p w hp).mono ?_
      rintro e w' ⟨N, rfl, h1, h2, h3⟩
      exact ⟨h3, _, _, rfl, ⟨.iface 79 (.cp [.any, .any, .any] 0), ⟨_, _, rfl⟩, rfl, rfl⟩, rv_tup (err h1 h2 hs)⟩
  · cases ha

theorem cp_strconv_Itoa (n : Int) : CP Tryd.prog 37 [.int .i64 n] (strconv_Itoa n) (fun x => AV.str x) :=
  cp_lib (.mk Tryd.func37 rfl (by decide)) (fun p h => by unfold strconv_Itoa at h; split at h <;> cases h) fun a ha B mu h w cargs hs hl => by
    obtain ⟨c1, rfl, h1⟩ := lrv_one hl
    obtain rfl := rv_int h1
    unfold strconv_Itoa at ha
    split at ha
    · rename_i hn
      cases ha
      refine (Go.Proofs.Tryd.strconv_Itoa n hn.1 hn.2 w (gw_pow10 hs.glob.2)).mono ?_
      rintro e w' ⟨rfl, k, os, rfl⟩
      refine ⟨⟨rfl, rfl, rfl, ?_, fun i hi => ?_⟩, _, rfl, .str _⟩
      · show w.heap.size ≤ (w.heap ++ os).size
        simp
      · show (w.heap ++ os)[i]? = _
        exact Array.getElem?_append_left hi
    · cases ha

theorem cp_internal_stringslite_HasPrefix (s : Str) (vprefix : Str) : CP Tryd.prog 55 [(.str s), (.str vprefix)] (internal_stringslite_HasPrefix s vprefix) (fun (x : Bool) => (AV.bool x)) := by
  refine cp_intro (n := 18) 0 Tryd.func55 rfl (by decide) rfl rfl fun h0 ids hI => ?_
  refine wr_in (wr_mod (internal_stringslite_HasPrefix.eq_1 _ _) ?_)
  refine wr_seq ?_
  refine wr_region ?_
  refine wo_val (.bool false) rfl pv_assign ?_
  refine wo_nil ?_
  refine wr_seq ?_
  refine wr_region ?_
  refine wo_val (.str s) rfl pv_move ?_
  refine wo_val (.int .i64 (s.length : Int)) rfl (pv_len (len_str ti9)) ?_
  refine wo_val (.str vprefix) rfl pv_move ?_
  refine wo_val (.int .i64 (vprefix.length : Int)) rfl (pv_len (len_str ti9)) ?_
  refine wo_val (.bool (decide ((s.length : Int) ≥ (vprefix.length : Int)))) rfl (pv_bin rfl rfl rfl) ?_
  refine wo_val (.bool (decide ((s.length : Int) ≥ (vprefix.length : Int)))) rfl pv_move ?_
  refine wo_join 7 ((fun (b : Bool) => .ok b) : Bool → R Bool) (fun (b : Bool) (fr : Nat → AV) (h : AHeap) => fr = frA [(17, (.bool b))] ∧ h = hp h0 ids []) ?_ fun hJ => of_if1 (fun hb1 => ?_) (fun hb1 => ?_)
  · rintro b fr h ⟨rfl, rfl⟩
    refine wo_val (.bool b) rfl pv_assign ?_
    refine wo_nil ?_
    exact wr_ret (a := b) (vs := [(.bool b)]) Tryd.func55 hI rfl (.same _)
  · refine wo_valg (tj := 10) (.str s) rfl (congrArg AV.bool hb1) rfl pv_move ?_
    refine wo_valg (tj := 10) (.str vprefix) rfl (congrArg AV.bool hb1) rfl pv_move ?_
    refine wo_valg (tj := 10) (.int .i64 (vprefix.length : Int)) rfl (congrArg AV.bool hb1) rfl (pv_len (len_str ti9)) ?_
    refine of_need fun hs => ?_
    refine wo_valg (tj := 10) (.str (s.take (Int.toNat (vprefix.length : Int)))) rfl (congrArg AV.bool hb1) rfl (pv_slice (sl_strB ti9 hs)) ?_
    refine wo_valg (tj := 10) (.str vprefix) rfl (congrArg AV.bool hb1) rfl pv_move ?_
    refine wo_valg (tj := 10) (.bool ((s.take (Int.toNat (vprefix.length : Int))) == vprefix)) rfl (congrArg AV.bool hb1) rfl (pv_bin rfl rfl rfl) ?_
    refine wo_val (.bool ((s.take (Int.toNat (vprefix.length : Int))) == vprefix)) rfl (pv_pick (t := true) (congrArg AV.bool hb1) rfl) ?_
    refine wo_back1 ?_
    refine wo_is [(17, (.bool ((s.take (Int.toNat (vprefix.length : Int))) == vprefix)))] (.cons rfl .nil) ?_
    exact hJ ((s.take (Int.toNat (vprefix.length : Int))) == vprefix) _ _ ⟨rfl, rfl⟩
  · refine wo_not (tj := 10) (b := false) rfl (congrArg AV.bool hb1) rfl rfl ?_
    refine wo_not (tj := 10) (b := false) rfl (congrArg AV.bool hb1) rfl rfl ?_
    refine wo_not (tj := 10) (b := false) rfl (congrArg AV.bool hb1) rfl rfl ?_
    refine wo_not (tj := 10) (b := false) rfl (congrArg AV.bool hb1) rfl rfl ?_
    refine wo_not (tj := 10) (b := false) rfl (congrArg AV.bool hb1) rfl rfl ?_
    refine wo_not (tj := 10) (b := false) rfl (congrArg AV.bool hb1) rfl rfl ?_
    refine wo_val (.bool false) rfl (pv_pick (t := false) (congrArg AV.bool hb1) rfl) ?_
    refine wo_back1 ?_
    refine wo_is [(17, (.bool false))] (.cons rfl .nil) ?_
    exact hJ false _ _ ⟨rfl, rfl⟩

theorem cp_strings_HasPrefix (s : Str) (vprefix : Str) : CP Tryd.prog 46 [(.str s), (.str vprefix)] (strings_HasPrefix s vprefix) (fun (x : Bool) => (AV.bool x)) := by
  refine cp_intro (n := 8) 0 Tryd.func46 rfl (by decide) rfl rfl fun h0 ids hI => ?_
  refine wr_in (wr_mod (strings_HasPrefix.eq_1 _ _) ?_)
  refine wr_seq ?_
  refine wr_region ?_
  refine wo_val (.bool false) rfl pv_assign ?_
  refine wo_nil ?_
  refine wr_seq ?_
  refine wr_region ?_
  refine wo_val (.str s) rfl pv_move ?_
  refine wo_val (.str vprefix) rfl pv_move ?_
  refine of_call [(.str s), (.str vprefix)] rfl rfl rfl rfl ((cp_internal_stringslite_HasPrefix s vprefix) _) (fun v _ => wu_pan Tryd.func46 hI) fun r _ => ?_
  refine wo_val (.bool r) rfl pv_assign ?_
  refine wo_nil ?_
  exact wr_ret (a := r) (vs := [(.bool r)]) Tryd.func46 hI rfl (.same _)

theorem cg_lex_scanner_space_2 (s0_src : Str) (s0_at : Int) (l : (List Token)) (h0 : AHeap) (o0 : Nat) (o1 : Nat) (g : Nat) (v1 : AV) (g1 : Nat) (vH : OwnV v1 o1 g1 l.length) (hI0 : Ids h0 [o0, o1] 2) : lex_scanner_space_2 s0_src s0_at l ≠ .bad → ACalls Tryd.prog 26 [(.ptr o0 g 0 0)] (hp h0 [o0, o1] [some (.rows g 3 [[(.str s0_src), (.int .i64 s0_at), v1]]), ownO v1 g1 4 (List.map rToken l)]) (AnsG (fun a_ v h' => v = (.tup []) ∧ h' = hp h0 [o0, o1] [some (.rows g 3 [[(.str s0_src), (.int .i64 a_), v1]]), ownO v1 g1 4 (List.map rToken l)]) h0 (lex_scanner_space_2 s0_src s0_at l)) := by
  refine cpg_intro (n := 13) 0 Tryd.func26 rfl (by decide) rfl rfl hI0 rfl fun ids he hI => ?_
  clear hI0
  obtain rfl : ix ids 0 = o0 := he 0 rfl
  obtain rfl : ix ids 1 = o1 := he 1 rfl
  clear he
  refine wr_in (wr_mod (lex_scanner_space_2.eq_1 _ _ _) ?_)
  refine wr_draw hmix [[], [0], [0, 1], [0, 1, 2], [], [], [4, 5], [4, 5, 6], [0, 1, 2, 3, 4, 5, 6, 7], [0, 0, 1, 2, 3, 4, 5, 6, 7, 8], [0, 1, 2, 3, 4, 5, 6, 7, 8, 9], [0, 1, 2, 3, 4, 5, 6, 7, 8, 9, 10]] [(false, 0), (false, 1), (false, 2), (false, 3), (false, 4), (true, 5), (true, 6), (false, 7), (false, 8), (false, 9), (false, 10), (true, 11)] (by kernel_rfl) ?_
  refine wp_val (.ptr (ix ids 0) g 0 0) rfl rfl pv_move ?_
  refine wp_val (.ptr (ix ids 0) g 0 0) rfl rfl (pv_nilCheck rfl) ?_
  refine wp_val (.ptr (ix ids 0) g 0 1) rfl rfl (pv_fa (fa_ptr (c := 0) (off := 1) (i := 1) ti49 rfl ti3 rfl)) ?_
  refine wp_val (.int .i64 s0_at) rfl rfl (pv_load (ld_ptr hI rfl rfl rfl ti3 rfl)) ?_
  refine wp_val (.ptr (ix ids 0) g 0 0) rfl rfl pv_move ?_
  refine wp_op rfl rfl (fun _ _ => rfl) (fun K hK => eff_bsC (e := (rI .i64)) (L := [1]) (st := 1) (rows := [[(.int .i64 1)]]) ti70 ti3 rfl rfl rfl rfl rfl (.cons (RowSim.refl _) .nil) (fun x => ok_I x) rfl rfl (hK _ _ (pend_no rfl pv_move (pend_no rfl (pv_load (ld_ptr hI rfl rfl rfl ti3 rfl)) (pend_no rfl (pv_fa (fa_ptr (c := 0) (off := 1) (i := 1) ti49 rfl ti3 rfl)) (pend_no rfl (pv_nilCheck rfl) (pend_no rfl pv_move pend_nil))))) ?_)) 
  clear hK K
  refine wp_call [(.ptr (ix ids 0) g 0 0), (.sl 1 (List.map (rI .i64) [1]))] rfl rfl rfl rfl rfl (CP.lend (cp_lex_scanner_run ({ fSrc := s0_src, fAt := s0_at, fL := l } : T48) [1]) (LF.lfz (.cons (.ptrL (hI.at rfl rfl) rfl rfl (.cons (.same _) (.cons (.same _) (.cons (own_fz vH (hI.at rfl rfl) rfl (fun x => ok_Token x)) .nil)))) (.cons (.same _) .nil))) (fun _ _ => (.str _))) (fun v _ _ _ => wu_panG (K := 2) (N := 0) Tryd.func26 hI) (pend_yes rfl (pend_no rfl (pv_load (ld_ptr hI rfl rfl rfl ti3 rfl)) (pend_no rfl (pv_fa (fa_ptr (c := 0) (off := 1) (i := 1) ti49 rfl ti3 rfl)) (pend_no rfl (pv_nilCheck rfl) (pend_no rfl pv_move pend_nil))))) fun r _ => ?_
  refine wp_val (.int .i64 (r.length : Int)) rfl rfl (pv_len (len_str ti9)) ?_
  refine wp_val (.int .i64 (IntKind.wrap .i64 (s0_at + (r.length : Int)))) rfl rfl (pv_bin rfl rfl rfl) ?_
  refine wp_val (.ptr (ix ids 0) g 0 0) rfl rfl (pv_nilCheck rfl) ?_
  refine wp_val (.ptr (ix ids 0) g 0 1) rfl rfl (pv_fa (fa_ptr (c := 0) (off := 1) (i := 1) ti49 rfl ti3 rfl)) ?_
  refine wp_op0 rfl (fun _ _ => rfl) (fun K hK => eff_store (st_ptr hI rfl rfl rfl rfl ti3 rfl rfl rfl rfl rfl) (hK _ _ (pend_yes rfl (pend_yes rfl (pend_yes rfl (pend_yes rfl (pend_yes rfl (pend_yes rfl (pend_yes rfl (pend_yes rfl (pend_yes rfl pend_nil))))))))) ?_)) 
  clear hK K
  refine wp_nil ?_
  refine wr_hp [(some (.rows g 3 [[(.str s0_src), (.int .i64 (IntKind.wrap .i64 (s0_at + (r.length : Int)))), v1]])), (ownO v1 g1 4 (List.map rToken l))] rfl ?_
  exact wr_endG (K := 2) (N := 0) (a := (IntKind.wrap .i64 (s0_at + (r.length : Int)))) (vs := []) [some (.rows g 3 [[(.str s0_src), (.int .i64 (IntKind.wrap .i64 (s0_at + (r.length : Int)))), v1]]), ownO v1 g1 4 (List.map rToken l)] Tryd.func26 hI rfl rfl rfl (.keep (.keep .nil)) (.same _) ⟨rfl, rfl⟩

theorem cg_lex_scanner_add_2 (text : Str) (t : Token) (s0_src : Str) (s0_at : Int) (l : (List Token)) (h0 : AHeap) (o0 : Nat) (o1 : Nat) (g : Nat) (v1 : AV) (g1 : Nat) (vH : OwnV v1 o1 g1 l.length) (hI0 : Ids h0 [o0, o1] 2) : lex_scanner_add_2 text t s0_src s0_at l ≠ .bad → ACalls Tryd.prog 44 [(.ptr o0 g 0 0), (.str text), (.agg (rToken t))] (hp h0 [o0, o1] [some (.rows g 3 [[(.str s0_src), (.int .i64 s0_at), v1]]), ownO v1 g1 4 (List.map rToken l)]) (AnsG (fun a_ v h' => ∃ (v3 : AV), ∃ (g4 : Nat), OwnV v3 o1 g4 a_.length ∧ v = (.tup []) ∧ h' = hp h0 [o0, o1] [some (.rows g 3 [[(.str s0_src), (.int .i64 (IntKind.wrap .i64 (s0_at + (text.length : Int)))), v3]]), ownO v3 g4 4 (List.map rToken a_)]) h0 (lex_scanner_add_2 text t s0_src s0_at l)) := by
  refine cpg_intro (n := 38) 1 Tryd.func44 rfl (by decide) rfl rfl hI0 rfl fun ids he hI => ?_
  clear hI0
  obtain rfl : ix ids 0 = o0 := he 0 rfl
  obtain rfl : ix ids 1 = o1 := he 1 rfl
  clear he
  refine wr_in (wr_mod (lex_scanner_add_2.eq_1 _ _ _ _ _) ?_)
  refine wr_hp [(some (.rows g 3 [[(.str s0_src), (.int .i64 s0_at), v1]])), (ownO v1 g1 4 (List.map rToken l)), none] rfl ?_
  refine wr_seq ?_
  refine wr_region ?_
  refine wo_box (v := (.agg (rToken t))) (j := 2) hI rfl rfl rfl rfl rfl rfl rfl fun g2 => ?_
  refine wo_nil ?_
  refine wr_hp [(some (.rows g 3 [[(.str s0_src), (.int .i64 s0_at), v1]])), (ownO v1 g1 4 (List.map rToken l)), (some (.rows g2 4 [(rToken t)]))] rfl ?_
  refine wr_seq ?_
  refine wr_seq ?_
  refine wr_region ?_
  refine wo_val (.agg (rToken t)) rfl (pv_load (ld_ptr hI rfl rfl rfl ti35 rfl)) ?_
  refine of_call [(.agg (rToken t))] rfl rfl rfl rfl ((cp_lex_valid t) _) (fun v _ => wu_panG (K := 2) (N := 1) Tryd.func44 hI) fun r _ => ?_
  refine wo_val (.bool (!r)) rfl (pv_un rfl) ?_
  refine wo_nil ?_
  refine wf_itebn rfl (fun hc => ?_) (fun hc => ?_)
  · refine wr_skip ?_
    refine wr_seq ?_
    refine wr_region ?_
    refine wo_val (.ptr (ix ids 0) g 0 0) rfl pv_move ?_
    refine wo_val (.ptr (ix ids 0) g 0 0) rfl (pv_nilCheck rfl) ?_
    refine wo_val (.ptr (ix ids 0) g 0 1) rfl (pv_fa (fa_ptr (c := 0) (off := 1) (i := 1) ti49 rfl ti3 rfl)) ?_
    refine wo_val (.int .i64 s0_at) rfl (pv_load (ld_ptr hI rfl rfl rfl ti3 rfl)) ?_
    refine wo_val (.ptr (ix ids 2) g2 0 3) rfl (pv_fa (fa_ptr (c := 0) (off := 3) (i := 3) ti35 rfl ti3 rfl)) ?_
    refine wo_store (st_ptr hI rfl rfl rfl rfl ti3 rfl rfl rfl rfl rfl) ?_
    refine wo_nil ?_
    refine wr_hp [(some (.rows g 3 [[(.str s0_src), (.int .i64 s0_at), v1]])), (ownO v1 g1 4 (List.map rToken l)), (some (.rows g2 4 [[(.int .i64 t.Kind), (.str t.Text), (.int .i64 t.N), (.int .i64 s0_at)]]))] rfl ?_
    refine wr_seq ?_
    refine wr_draw hmix [[], [], [1], [1, 2], [1, 2, 3], [], [5], [1, 2, 3, 4, 5, 6], [0, 0, 1, 2, 3, 4, 5, 6, 7], [0, 1, 2, 3, 4, 5, 6, 7, 8], [0, 1, 2, 3, 4, 5, 6, 7, 8, 9]] [(false, 0), (false, 1), (false, 2), (false, 3), (false, 4), (false, 5), (true, 6), (true, 7), (false, 8), (false, 9), (true, 10)] (by kernel_rfl) ?_
    refine wp_val (.ptr (ix ids 0) g 0 0) rfl rfl pv_move ?_
    refine wp_val (.ptr (ix ids 0) g 0 0) rfl rfl pv_move ?_
    refine wp_val (.ptr (ix ids 0) g 0 0) rfl rfl (pv_nilCheck rfl) ?_
    refine wp_val (.ptr (ix ids 0) g 0 2) rfl rfl (pv_fa (fa_ptr (c := 0) (off := 2) (i := 2) ti49 rfl ti23 rfl)) ?_
    refine wp_val v1 rfl rfl (pv_load (ld_ptr hI rfl rfl rfl ti23 rfl)) ?_
    refine wp_val (.agg [(.int .i64 t.Kind), (.str t.Text), (.int .i64 t.N), (.int .i64 s0_at)]) rfl rfl (pv_load (ld_ptr hI rfl rfl rfl ti35 rfl)) ?_
    refine wp_op rfl rfl (fun _ _ => rfl) (fun K hK => eff_bsC (e := rToken) (L := [({ Kind := t.Kind, Text := t.Text, N := t.N, At := s0_at } : Token)]) (st := 4) (rows := [[(.int .i64 t.Kind), (.str t.Text), (.int .i64 t.N), (.int .i64 s0_at)]]) ti23 ti35 rfl rfl rfl rfl rfl (.cons (.cons (.same _) (.cons (.same _) (.cons (.same _) (.cons (.same _) .nil)))) .nil) (fun x => ok_Token x) rfl rfl (hK _ _ (pend_yes rfl (pend_no rfl (pv_load (ld_ptr hI rfl rfl rfl ti23 rfl)) (pend_no rfl (pv_fa (fa_ptr (c := 0) (off := 2) (i := 2) ti49 rfl ti23 rfl)) (pend_no rfl (pv_nilCheck rfl) (pend_no rfl pv_move (pend_no rfl pv_move pend_nil)))))) ?_)) 
    clear hK K
    refine op_need fun hl => ?_
    refine wp_op rfl rfl (fun _ _ => rfl) (fun K hK => eff_append (e := rToken) (L := l) (L2 := [({ Kind := t.Kind, Text := t.Text, N := t.N, At := s0_at } : Token)]) (v := v1) (g := g1) (st := 4) (j := 1) hI rfl rfl rfl vH rfl (src_sl rfl) ti23 ti23 rfl ti35 rfl rfl rfl hl fun v2 g3 vH1 => hK _ _ (pend_yes rfl (pend_yes rfl (pend_yes rfl (pend_yes rfl (pend_yes rfl (pend_no rfl pv_move pend_nil)))))) ?_) 
    clear hK K
    refine wp_val (.ptr (ix ids 0) g 0 0) rfl rfl (pv_nilCheck rfl) ?_
    refine wp_val (.ptr (ix ids 0) g 0 2) rfl rfl (pv_fa (fa_ptr (c := 0) (off := 2) (i := 2) ti49 rfl ti23 rfl)) ?_
    refine wp_op0 rfl (fun _ _ => rfl) (fun K hK => eff_store (st_ptrO vH1 hI rfl rfl rfl rfl ti23 rfl rfl rfl) (hK _ _ (pend_yes rfl (pend_yes rfl (pend_yes rfl (pend_yes rfl (pend_yes rfl (pend_yes rfl (pend_yes rfl (pend_yes rfl pend_nil)))))))) ?_)) 
    clear hK K
    refine wp_nil ?_
    refine wr_hp [(some (.rows g 3 [[(.str s0_src), (.int .i64 s0_at), v2]])), (ownO v2 g3 4 (List.map rToken (l ++ [({ Kind := t.Kind, Text := t.Text, N := t.N, At := s0_at } : Token)]))), (some (.rows g2 4 [[(.int .i64 t.Kind), (.str t.Text), (.int .i64 t.N), (.int .i64 s0_at)]]))] rfl ?_
    refine wr_region ?_
    refine wo_val (.ptr (ix ids 0) g 0 0) rfl pv_move ?_
    refine wo_val (.ptr (ix ids 0) g 0 0) rfl (pv_nilCheck rfl) ?_
    refine wo_val (.ptr (ix ids 0) g 0 1) rfl (pv_fa (fa_ptr (c := 0) (off := 1) (i := 1) ti49 rfl ti3 rfl)) ?_
    refine wo_val (.int .i64 s0_at) rfl (pv_load (ld_ptr hI rfl rfl rfl ti3 rfl)) ?_
    refine wo_val (.str text) rfl pv_move ?_
    refine wo_val (.int .i64 (text.length : Int)) rfl (pv_len (len_str ti9)) ?_
    refine wo_val (.int .i64 (IntKind.wrap .i64 (s0_at + (text.length : Int)))) rfl (pv_bin rfl rfl rfl) ?_
    refine wo_val (.ptr (ix ids 0) g 0 0) rfl (pv_nilCheck rfl) ?_
    refine wo_val (.ptr (ix ids 0) g 0 1) rfl (pv_fa (fa_ptr (c := 0) (off := 1) (i := 1) ti49 rfl ti3 rfl)) ?_
    refine wo_store (st_ptr hI rfl rfl rfl rfl ti3 rfl rfl rfl rfl rfl) ?_
    refine wo_nil ?_
    refine wr_hp [(some (.rows g 3 [[(.str s0_src), (.int .i64 (IntKind.wrap .i64 (s0_at + (text.length : Int)))), v2]])), (ownO v2 g3 4 (List.map rToken (l ++ [({ Kind := t.Kind, Text := t.Text, N := t.N, At := s0_at } : Token)]))), (some (.rows g2 4 [[(.int .i64 t.Kind), (.str t.Text), (.int .i64 t.N), (.int .i64 s0_at)]]))] rfl ?_
    exact wr_endG (K := 2) (N := 1) (a := (l ++ [({ Kind := t.Kind, Text := t.Text, N := t.N, At := s0_at } : Token)])) (vs := []) [some (.rows g 3 [[(.str s0_src), (.int .i64 (IntKind.wrap .i64 (s0_at + (text.length : Int)))), v2]]), ownO v2 g3 4 (List.map rToken (l ++ [({ Kind := t.Kind, Text := t.Text, N := t.N, At := s0_at } : Token)]))] Tryd.func44 hI rfl rfl rfl (.keep (.keep (.drop .nil))) (.same _) ⟨v2, g3, vH1, rfl, rfl⟩
  · refine wr_region ?_
    refine wo_val (.ptr (ix ids 0) g 0 0) rfl pv_move ?_
    refine wo_val (.ptr (ix ids 0) g 0 0) rfl (pv_nilCheck rfl) ?_
    refine wo_val (.ptr (ix ids 0) g 0 1) rfl (pv_fa (fa_ptr (c := 0) (off := 1) (i := 1) ti49 rfl ti3 rfl)) ?_
    refine wo_val (.int .i64 s0_at) rfl (pv_load (ld_ptr hI rfl rfl rfl ti3 rfl)) ?_
    refine wo_val (.iface 42 (.int .i64 s0_at)) rfl (pv_iface ti42 (by decide)) ?_
    exact wo_panic (v := ⟨42, .int .i64 s0_at⟩) rfl rfl (wu_panG (K := 2) (N := 1) Tryd.func44 hI)

theorem cg_lex_scanner_name_2 (s0_src : Str) (s0_at : Int) (l : (List Token)) (h0 : AHeap) (o0 : Nat) (o1 : Nat) (g : Nat) (v1 : AV) (g1 : Nat) (vH : OwnV v1 o1 g1 l.length) (hI0 : Ids h0 [o0, o1] 2) : lex_scanner_name_2 s0_src s0_at l ≠ .bad → ACalls Tryd.prog 27 [(.ptr o0 g 0 0)] (hp h0 [o0, o1] [some (.rows g 3 [[(.str s0_src), (.int .i64 s0_at), v1]]), ownO v1 g1 4 (List.map rToken l)]) (AnsG (fun a_ v h' => ∃ (v3 : AV), ∃ (g3 : Nat), OwnV v3 o1 g3 a_.2.length ∧ v = (.tup []) ∧ h' = hp h0 [o0, o1] [some (.rows g 3 [[(.str s0_src), (.int .i64 a_.1), v3]]), ownO v3 g3 4 (List.map rToken a_.2)]) h0 (lex_scanner_name_2 s0_src s0_at l)) := by
  refine cpg_intro (n := 11) 0 Tryd.func27 rfl (by decide) rfl rfl hI0 rfl fun ids he hI => ?_
  clear hI0
  obtain rfl : ix ids 0 = o0 := he 0 rfl
  obtain rfl : ix ids 1 = o1 := he 1 rfl
  clear he
  refine wr_in (wr_mod (lex_scanner_name_2.eq_1 _ _ _) ?_)
  refine wr_seq ?_
  refine wr_region ?_
  refine wo_val (.ptr (ix ids 0) g 0 0) rfl pv_move ?_
  refine wo_bsC (e := (rI .i64)) (L := [2, 3, 5]) (st := 1) (rows := [[(.int .i64 2)], [(.int .i64 3)], [(.int .i64 5)]]) rfl ti70 ti3 rfl rfl rfl rfl rfl (.cons (RowSim.refl _) (.cons (RowSim.refl _) (.cons (RowSim.refl _) .nil))) (fun x => ok_I x) rfl rfl ?_
  refine of_call [(.ptr (ix ids 0) g 0 0), (.sl 1 (List.map (rI .i64) [2, 3, 5]))] rfl rfl rfl rfl (CP.lend (cp_lex_scanner_run ({ fSrc := s0_src, fAt := s0_at, fL := l } : T48) [2, 3, 5]) (LF.lfz (.cons (.ptrL (hI.at rfl rfl) rfl rfl (.cons (.same _) (.cons (.same _) (.cons (own_fz vH (hI.at rfl rfl) rfl (fun x => ok_Token x)) .nil)))) (.cons (.same _) .nil))) (fun _ _ => (.str _))) (fun v _ => wu_panG (K := 2) (N := 0) Tryd.func27 hI) fun t _ => ?_
  refine wo_val (.str t) rfl pv_assign ?_
  refine wo_nil ?_
  refine wr_region ?_
  refine wo_val (.ptr (ix ids 0) g 0 0) rfl pv_move ?_
  refine wo_val (.str t) rfl pv_move ?_
  refine wo_val (.str t) rfl pv_move ?_
  refine wo_val (.agg [(.int .i64 1), (.str t), (.int .i64 0), (.int .i64 0)]) rfl (pv_build (bd_st ti35 pl35 rfl)) ?_
  refine of_callG [0, 1] hI rfl rfl (cg_lex_scanner_add_2 t ({ Kind := 1, Text := t, N := 0, At := 0 } : Token) s0_src s0_at l _ (ix ids 0) (ix ids 1) g v1 g1 vH (by exact hI.sub' rfl rfl)) rfl rfl rfl rfl rfl rfl (fun v _ => wu_panG (K := 2) (N := 0) Tryd.func27 hI) ?_
  rintro r _ _ _ ⟨v2, g2, vH1, rfl, rfl⟩
  refine wo_putH [0, 1] [(some (.rows g 3 [[(.str s0_src), (.int .i64 (IntKind.wrap .i64 (s0_at + (t.length : Int)))), v2]])), (ownO v2 g2 4 (List.map rToken r))] hI rfl rfl rfl rfl ?_
  refine wo_put1 ?_
  refine wo_nil ?_
  refine wr_hp [(some (.rows g 3 [[(.str s0_src), (.int .i64 (IntKind.wrap .i64 (s0_at + (t.length : Int)))), v2]])), (ownO v2 g2 4 (List.map rToken r))] rfl ?_
  exact wr_endG (K := 2) (N := 0) (a := ((IntKind.wrap .i64 (s0_at + (t.length : Int))), r)) (vs := []) [some (.rows g 3 [[(.str s0_src), (.int .i64 (IntKind.wrap .i64 (s0_at + (t.length : Int)))), v2]]), ownO v2 g2 4 (List.map rToken r)] Tryd.func27 hI rfl rfl rfl (.keep (.keep .nil)) (.same _) ⟨v2, g2, vH1, rfl, rfl⟩

theorem cg_lex_scanner_number_2 (s0_src : Str) (s0_at : Int) (l : (List Token)) (h0 : AHeap) (o0 : Nat) (o1 : Nat) (g : Nat) (v1 : AV) (g1 : Nat) (vH : OwnV v1 o1 g1 l.length) (hI0 : Ids h0 [o0, o1] 2) : lex_scanner_number_2 s0_src s0_at l ≠ .bad → ACalls Tryd.prog 28 [(.ptr o0 g 0 0)] (hp h0 [o0, o1] [some (.rows g 3 [[(.str s0_src), (.int .i64 s0_at), v1]]), ownO v1 g1 4 (List.map rToken l)]) (AnsG (fun a_ v h' => ∃ (v4 : AV), ∃ (g3 : Nat), OwnV v4 o1 g3 a_.2.length ∧ v = (.tup []) ∧ h' = hp h0 [o0, o1] [some (.rows g 3 [[(.str s0_src), (.int .i64 a_.1), v4]]), ownO v4 g3 4 (List.map rToken a_.2)]) h0 (lex_scanner_number_2 s0_src s0_at l)) := by
  refine cpg_intro (n := 31) 0 Tryd.func28 rfl (by decide) rfl rfl hI0 rfl fun ids he hI => ?_
  clear hI0
  obtain rfl : ix ids 0 = o0 := he 0 rfl
  obtain rfl : ix ids 1 = o1 := he 1 rfl
  clear he
  refine wr_in (wr_mod (lex_scanner_number_2.eq_1 _ _ _) ?_)
  refine wr_seq ?_
  refine wr_region ?_
  refine wo_val (.ptr (ix ids 0) g 0 0) rfl pv_move ?_
  refine wo_bsC (e := (rI .i64)) (L := [3]) (st := 1) (rows := [[(.int .i64 3)]]) rfl ti70 ti3 rfl rfl rfl rfl rfl (.cons (RowSim.refl _) .nil) (fun x => ok_I x) rfl rfl ?_
  refine of_call [(.ptr (ix ids 0) g 0 0), (.sl 1 (List.map (rI .i64) [3]))] rfl rfl rfl rfl (CP.lend (cp_lex_scanner_run ({ fSrc := s0_src, fAt := s0_at, fL := l } : T48) [3]) (LF.lfz (.cons (.ptrL (hI.at rfl rfl) rfl rfl (.cons (.same _) (.cons (.same _) (.cons (own_fz vH (hI.at rfl rfl) rfl (fun x => ok_Token x)) .nil)))) (.cons (.same _) .nil))) (fun _ _ => (.str _))) (fun v _ => wu_panG (K := 2) (N := 0) Tryd.func28 hI) fun t _ => ?_
  refine wo_val (.str t) rfl pv_assign ?_
  refine wo_nil ?_
  refine wr_seq ?_
  refine wr_region ?_
  refine wo_val (.str t) rfl pv_move ?_
  refine of_callG [] hI rfl rfl (cg_strconv_Atoi t _ (by exact hI.sub' rfl rfl)) rfl rfl rfl rfl rfl rfl (fun v _ => wu_panG (K := 2) (N := 0) Tryd.func28 hI) ?_
  rintro r _ _ _ ⟨v2, vH1, rfl, rfl⟩
  refine wo_putH [] [(some (.rows g 3 [[(.str s0_src), (.int .i64 s0_at), v1]])), (ownO v1 g1 4 (List.map rToken l))] hI rfl rfl rfl rfl ?_
  refine wo_put1 ?_
  refine wo_val (.tup [(.int .i64 r.1), v2]) rfl pv_move ?_
  refine wo_val (.int .i64 r.1) rfl (pv_ext rfl) ?_
  refine wo_val v2 rfl (pv_ext rfl) ?_
  refine wo_val (.int .i64 r.1) rfl pv_assign ?_
  refine wo_val v2 rfl pv_assign ?_
  refine wo_nil ?_
  refine wr_seq ?_
  refine wr_seq ?_
  refine wr_region ?_
  refine wo_val v2 rfl pv_move ?_
  refine wo_val (.bool r.2) rfl (pv_bin (guard_err (.inr rfl) vH1) rfl (bin_errn ti61 vH1)) ?_
  refine wo_val (.bool r.2) rfl pv_move ?_
  refine wo_join 5 ((fun (b : Bool) => if b then
(.pan ⟨42, .int .i64 s0_at⟩)
else
((lex_scanner_add_2 t ({ Kind := 2, Text := [], N := r.1, At := 0 } : Token) s0_src s0_at l).bind fun r2 =>
  .ok ((IntKind.wrap .i64 (s0_at + (t.length : Int))), r2))) : Bool → R (Int × (List Token))) (fun (b : Bool) (fr : Nat → AV) (h : AHeap) => fr = frA [(0, (.ptr (ix ids 0) g 0 0)), (2, (.str t)), (3, (.int .i64 r.1)), (20, (.bool b))] ∧ h = hp h0 ids [(some (.rows g 3 [[(.str s0_src), (.int .i64 s0_at), v1]])), (ownO v1 g1 4 (List.map rToken l))]) ?_ fun hJ => of_if1 (fun hb1 => ?_) (fun hb1 => ?_)
  · rintro b fr h ⟨rfl, rfl⟩
    refine wo_nil ?_
    refine wf_iteb rfl (fun hc => ?_) (fun hc => ?_)
    · refine wr_region ?_
      refine wo_val (.ptr (ix ids 0) g 0 0) rfl pv_move ?_
      refine wo_val (.ptr (ix ids 0) g 0 0) rfl (pv_nilCheck rfl) ?_
      refine wo_val (.ptr (ix ids 0) g 0 1) rfl (pv_fa (fa_ptr (c := 0) (off := 1) (i := 1) ti49 rfl ti3 rfl)) ?_
      refine wo_val (.int .i64 s0_at) rfl (pv_load (ld_ptr hI rfl rfl rfl ti3 rfl)) ?_
      refine wo_val (.iface 42 (.int .i64 s0_at)) rfl (pv_iface ti42 (by decide)) ?_
      exact wo_panic (v := ⟨42, .int .i64 s0_at⟩) rfl rfl (wu_panG (K := 2) (N := 0) Tryd.func28 hI)
    · refine wr_skip ?_
      refine wr_region ?_
      refine wo_val (.ptr (ix ids 0) g 0 0) rfl pv_move ?_
      refine wo_val (.str t) rfl pv_move ?_
      refine wo_val (.int .i64 r.1) rfl pv_move ?_
      refine wo_val (.agg [(.int .i64 2), (.str []), (.int .i64 r.1), (.int .i64 0)]) rfl (pv_build (bd_st ti35 pl35 rfl)) ?_
      refine of_callG [0, 1] hI rfl rfl (cg_lex_scanner_add_2 t ({ Kind := 2, Text := [], N := r.1, At := 0 } : Token) s0_src s0_at l _ (ix ids 0) (ix ids 1) g v1 g1 vH (by exact hI.sub' rfl rfl)) rfl rfl rfl rfl rfl rfl (fun v _ => wu_panG (K := 2) (N := 0) Tryd.func28 hI) ?_
      rintro r2 _ _ _ ⟨v3, g2, vH2, rfl, rfl⟩
      refine wo_putH [0, 1] [(some (.rows g 3 [[(.str s0_src), (.int .i64 (IntKind.wrap .i64 (s0_at + (t.length : Int)))), v3]])), (ownO v3 g2 4 (List.map rToken r2))] hI rfl rfl rfl rfl ?_
      refine wo_put1 ?_
      refine wo_nil ?_
      refine wr_hp [(some (.rows g 3 [[(.str s0_src), (.int .i64 (IntKind.wrap .i64 (s0_at + (t.length : Int)))), v3]])), (ownO v3 g2 4 (List.map rToken r2))] rfl ?_
      exact wr_endG (K := 2) (N := 0) (a := ((IntKind.wrap .i64 (s0_at + (t.length : Int))), r2)) (vs := []) [some (.rows g 3 [[(.str s0_src), (.int .i64 (IntKind.wrap .i64 (s0_at + (t.length : Int)))), v3]]), ownO v3 g2 4 (List.map rToken r2)] Tryd.func28 hI rfl rfl rfl (.keep (.keep .nil)) (.same _) ⟨v3, g2, vH2, rfl, rfl⟩
  · refine wo_not (tj := 15) (b := true) rfl (congrArg AV.bool hb1) rfl rfl ?_
    refine wo_not (tj := 15) (b := true) rfl (congrArg AV.bool hb1) rfl rfl ?_
    refine wo_not (tj := 15) (b := true) rfl (congrArg AV.bool hb1) rfl rfl ?_
    refine wo_not (tj := 15) (b := true) rfl (congrArg AV.bool hb1) rfl rfl ?_
    refine wo_val (.bool true) rfl (pv_pick (t := true) (congrArg AV.bool hb1) rfl) ?_
    refine wo_back1 ?_
    refine wo_is [(0, (.ptr (ix ids 0) g 0 0)), (2, (.str t)), (3, (.int .i64 r.1)), (20, (.bool true))] (.cons rfl (.cons rfl (.cons rfl (.cons rfl .nil)))) ?_
    exact hJ true _ _ ⟨rfl, rfl⟩
  · refine wo_valg (tj := 15) (.int .i64 r.1) rfl (congrArg AV.bool hb1) rfl pv_move ?_
    refine of_call [(.int .i64 r.1)] rfl (wanted_yes (tj := 15) rfl (congrArg AV.bool hb1)) rfl rfl ((cp_strconv_Itoa r.1) _) (fun v _ => wu_panG (K := 2) (N := 0) Tryd.func28 hI) fun r1 _ => ?_
    refine wo_valg (tj := 15) (.str t) rfl (congrArg AV.bool hb1) rfl pv_move ?_
    refine wo_valg (tj := 15) (.bool (!(r1 == t))) rfl (congrArg AV.bool hb1) rfl (pv_bin rfl rfl rfl) ?_
    refine wo_val (.bool (!(r1 == t))) rfl (pv_pick (t := false) (congrArg AV.bool hb1) rfl) ?_
    refine wo_back1 ?_
    refine wo_is [(0, (.ptr (ix ids 0) g 0 0)), (2, (.str t)), (3, (.int .i64 r.1)), (20, (.bool (!(r1 == t))))] (.cons rfl (.cons rfl (.cons rfl (.cons rfl .nil)))) ?_
    exact hJ (!(r1 == t)) _ _ ⟨rfl, rfl⟩

theorem cg_lex_scanner_sign_2 (s0_src : Str) (s0_at : Int) (l : (List Token)) (h0 : AHeap) (o0 : Nat) (o1 : Nat) (g : Nat) (v1 : AV) (g1 : Nat) (vH : OwnV v1 o1 g1 l.length) (hI0 : Ids h0 [o0, o1] 2) : lex_scanner_sign_2 s0_src s0_at l ≠ .bad → ACalls Tryd.prog 29 [(.ptr o0 g 0 0)] (hp h0 [o0, o1] [some (.rows g 3 [[(.str s0_src), (.int .i64 s0_at), v1]]), ownO v1 g1 4 (List.map rToken l)]) (AnsG (fun a_ v h' => ∃ (v3 : AV), ∃ (g3 : Nat), OwnV v3 o1 g3 a_.2.length ∧ v = (.tup []) ∧ h' = hp h0 [o0, o1] [some (.rows g 3 [[(.str s0_src), (.int .i64 a_.1), v3]]), ownO v3 g3 4 (List.map rToken a_.2)]) h0 (lex_scanner_sign_2 s0_src s0_at l)) := by
  refine cpg_intro (n := 61) 0 Tryd.func29 rfl (by decide) rfl rfl hI0 rfl fun ids he hI => ?_
  clear hI0
  obtain rfl : ix ids 0 = o0 := he 0 rfl
  obtain rfl : ix ids 1 = o1 := he 1 rfl
  clear he
  refine wr_in (wr_mod (lex_scanner_sign_2.eq_1 _ _ _) ?_)
  refine wr_seq ?_
  refine wr_seq ?_
  refine wr_draw hmix [[], [0], [0, 1], [0, 1, 2], [], [4], [4, 5], [4, 5, 6], [0, 1, 2, 3, 4, 5, 6, 7], [0, 1, 2, 3, 4, 5, 6, 7, 8]] [(false, 0), (false, 1), (false, 2), (false, 3), (false, 4), (false, 5), (false, 6), (false, 7), (false, 8), (true, 9)] (by kernel_rfl) ?_
  refine wp_val (.ptr (ix ids 0) g 0 0) rfl rfl pv_move ?_
  refine wp_val (.ptr (ix ids 0) g 0 0) rfl rfl (pv_nilCheck rfl) ?_
  refine wp_val (.ptr (ix ids 0) g 0 0) rfl rfl (pv_fa (fa_ptr (c := 0) (off := 0) (i := 0) ti49 rfl ti9 rfl)) ?_
  refine wp_val (.str s0_src) rfl rfl (pv_load (ld_ptr hI rfl rfl rfl ti9 rfl)) ?_
  refine wp_val (.ptr (ix ids 0) g 0 0) rfl rfl pv_move ?_
  refine wp_val (.ptr (ix ids 0) g 0 0) rfl rfl (pv_nilCheck rfl) ?_
  refine wp_val (.ptr (ix ids 0) g 0 1) rfl rfl (pv_fa (fa_ptr (c := 0) (off := 1) (i := 1) ti49 rfl ti3 rfl)) ?_
  refine wp_val (.int .i64 s0_at) rfl rfl (pv_load (ld_ptr hI rfl rfl rfl ti3 rfl)) ?_
  refine op_need fun hs => ?_
  refine wp_val (.str (s0_src.drop (Int.toNat s0_at))) rfl rfl (pv_slice (sl_strA ti9 hs)) ?_
  refine wp_call [(.str (s0_src.drop (Int.toNat s0_at))), (.str [47, 47])] rfl rfl rfl rfl rfl ((cp_strings_HasPrefix (s0_src.drop (Int.toNat s0_at)) [47, 47]) _) (fun v _ _ _ => wu_panG (K := 2) (N := 0) Tryd.func29 hI) (pend_yes rfl (pend_yes rfl (pend_yes rfl (pend_yes rfl (pend_yes rfl (pend_yes rfl (pend_yes rfl (pend_yes rfl (pend_yes rfl pend_nil))))))))) fun r _ => ?_
  refine wp_nil ?_
  refine wf_iteb rfl (fun hc => ?_) (fun hc => ?_)
  · refine wr_seq ?_
    refine wr_seq ?_
    refine wr_draw hmix [[], [0], [0, 1], [0, 1, 2], [], [4], [4, 5], [4, 5, 6], [0, 1, 2, 3, 4, 5, 6, 7], [0, 1, 2, 3, 4, 5, 6, 7, 8], [0, 1, 2, 3, 4, 5, 6, 7, 8, 9, 9, 9]] [(false, 0), (false, 1), (false, 2), (false, 3), (false, 4), (false, 5), (false, 6), (false, 7), (false, 8), (true, 9), (false, 10)] (by kernel_rfl) ?_
    refine wp_val (.ptr (ix ids 0) g 0 0) rfl rfl pv_move ?_
    refine wp_val (.ptr (ix ids 0) g 0 0) rfl rfl (pv_nilCheck rfl) ?_
    refine wp_val (.ptr (ix ids 0) g 0 0) rfl rfl (pv_fa (fa_ptr (c := 0) (off := 0) (i := 0) ti49 rfl ti9 rfl)) ?_
    refine wp_val (.str s0_src) rfl rfl (pv_load (ld_ptr hI rfl rfl rfl ti9 rfl)) ?_
    refine wp_val (.ptr (ix ids 0) g 0 0) rfl rfl pv_move ?_
    refine wp_val (.ptr (ix ids 0) g 0 0) rfl rfl (pv_nilCheck rfl) ?_
    refine wp_val (.ptr (ix ids 0) g 0 1) rfl rfl (pv_fa (fa_ptr (c := 0) (off := 1) (i := 1) ti49 rfl ti3 rfl)) ?_
    refine wp_val (.int .i64 s0_at) rfl rfl (pv_load (ld_ptr hI rfl rfl rfl ti3 rfl)) ?_
    refine op_need fun hs1 => ?_
    refine wp_val (.str (s0_src.drop (Int.toNat s0_at))) rfl rfl (pv_slice (sl_strA ti9 hs1)) ?_
    refine wp_call [(.str (s0_src.drop (Int.toNat s0_at))), (.int .u8 10)] rfl rfl rfl rfl rfl ((cp_strings_IndexByte (s0_src.drop (Int.toNat s0_at)) 10) _) (fun v _ _ _ => wu_panG (K := 2) (N := 0) Tryd.func29 hI) (pend_yes rfl (pend_yes rfl (pend_yes rfl (pend_yes rfl (pend_yes rfl (pend_yes rfl (pend_yes rfl (pend_yes rfl (pend_yes rfl pend_nil))))))))) fun n _ => ?_
    refine wp_val (.int .i64 n) rfl rfl pv_assign ?_
    refine wp_nil ?_
    refine wr_seq ?_
    refine wr_region ?_
    refine wo_val (.int .i64 n) rfl pv_move ?_
    refine wo_val (.bool (decide (n ≥ 0))) rfl (pv_bin rfl rfl rfl) ?_
    refine wo_nil ?_
    refine wf_ite rfl (fun hc1 => ?_) (fun hc1 => ?_)
    · refine wr_region ?_
      refine wo_val (.ptr (ix ids 0) g 0 0) rfl pv_move ?_
      refine wo_val (.ptr (ix ids 0) g 0 0) rfl (pv_nilCheck rfl) ?_
      refine wo_val (.ptr (ix ids 0) g 0 1) rfl (pv_fa (fa_ptr (c := 0) (off := 1) (i := 1) ti49 rfl ti3 rfl)) ?_
      refine wo_val (.int .i64 s0_at) rfl (pv_load (ld_ptr hI rfl rfl rfl ti3 rfl)) ?_
      refine wo_val (.int .i64 n) rfl pv_move ?_
      refine wo_val (.int .i64 (IntKind.wrap .i64 (s0_at + n))) rfl (pv_bin rfl rfl rfl) ?_
      refine wo_val (.ptr (ix ids 0) g 0 0) rfl (pv_nilCheck rfl) ?_
      refine wo_val (.ptr (ix ids 0) g 0 1) rfl (pv_fa (fa_ptr (c := 0) (off := 1) (i := 1) ti49 rfl ti3 rfl)) ?_
      refine wo_store (st_ptr hI rfl rfl rfl rfl ti3 rfl rfl rfl rfl rfl) ?_
      refine wo_nil ?_
      refine wr_hp [(some (.rows g 3 [[(.str s0_src), (.int .i64 (IntKind.wrap .i64 (s0_at + n))), v1]])), (ownO v1 g1 4 (List.map rToken l))] rfl ?_
      exact wr_retG (K := 2) (N := 0) (a := ((IntKind.wrap .i64 (s0_at + n)), l)) (vs := []) [some (.rows g 3 [[(.str s0_src), (.int .i64 (IntKind.wrap .i64 (s0_at + n))), v1]]), ownO v1 g1 4 (List.map rToken l)] Tryd.func29 hI rfl rfl rfl (.keep (.keep .nil)) (.same _) ⟨v1, g1, vH, rfl, rfl⟩
    · refine wr_region ?_
      refine wo_val (.ptr (ix ids 0) g 0 0) rfl pv_move ?_
      refine wo_val (.ptr (ix ids 0) g 0 0) rfl pv_move ?_
      refine wo_val (.ptr (ix ids 0) g 0 0) rfl (pv_nilCheck rfl) ?_
      refine wo_val (.ptr (ix ids 0) g 0 0) rfl (pv_fa (fa_ptr (c := 0) (off := 0) (i := 0) ti49 rfl ti9 rfl)) ?_
      refine wo_val (.str s0_src) rfl (pv_load (ld_ptr hI rfl rfl rfl ti9 rfl)) ?_
      refine wo_val (.int .i64 (s0_src.length : Int)) rfl (pv_len (len_str ti9)) ?_
      refine wo_val (.ptr (ix ids 0) g 0 0) rfl (pv_nilCheck rfl) ?_
      refine wo_val (.ptr (ix ids 0) g 0 1) rfl (pv_fa (fa_ptr (c := 0) (off := 1) (i := 1) ti49 rfl ti3 rfl)) ?_
      refine wo_store (st_ptr hI rfl rfl rfl rfl ti3 rfl rfl rfl rfl rfl) ?_
      refine wo_nil ?_
      refine wr_hp [(some (.rows g 3 [[(.str s0_src), (.int .i64 (s0_src.length : Int)), v1]])), (ownO v1 g1 4 (List.map rToken l))] rfl ?_
      exact wr_retG (K := 2) (N := 0) (a := ((s0_src.length : Int), l)) (vs := []) [some (.rows g 3 [[(.str s0_src), (.int .i64 (s0_src.length : Int)), v1]]), ownO v1 g1 4 (List.map rToken l)] Tryd.func29 hI rfl rfl rfl (.keep (.keep .nil)) (.same _) ⟨v1, g1, vH, rfl, rfl⟩
  · refine wr_skip ?_
    refine wr_seq ?_
    refine wr_draw hmix [[], [0], [0, 1], [0, 1, 2], [], [4], [4, 5], [4, 5, 6], [], [8], [8, 9], [8, 9, 10], [8, 9, 10, 11], [0, 1, 2, 3, 4, 5, 6, 7, 8, 9, 10, 11, 12], [0, 1, 2, 3, 4, 5, 6, 7, 8, 9, 10, 11, 12, 13, 13]] [(false, 0), (false, 1), (false, 2), (false, 3), (false, 4), (false, 5), (false, 6), (false, 7), (false, 8), (false, 9), (false, 10), (false, 11), (false, 12), (false, 13), (false, 14)] (by kernel_rfl) ?_
    refine wp_val (.ptr (ix ids 0) g 0 0) rfl rfl pv_move ?_
    refine wp_val (.ptr (ix ids 0) g 0 0) rfl rfl (pv_nilCheck rfl) ?_
    refine wp_val (.ptr (ix ids 0) g 0 0) rfl rfl (pv_fa (fa_ptr (c := 0) (off := 0) (i := 0) ti49 rfl ti9 rfl)) ?_
    refine wp_val (.str s0_src) rfl rfl (pv_load (ld_ptr hI rfl rfl rfl ti9 rfl)) ?_
    refine wp_val (.ptr (ix ids 0) g 0 0) rfl rfl pv_move ?_
    refine wp_val (.ptr (ix ids 0) g 0 0) rfl rfl (pv_nilCheck rfl) ?_
    refine wp_val (.ptr (ix ids 0) g 0 1) rfl rfl (pv_fa (fa_ptr (c := 0) (off := 1) (i := 1) ti49 rfl ti3 rfl)) ?_
    refine wp_val (.int .i64 s0_at) rfl rfl (pv_load (ld_ptr hI rfl rfl rfl ti3 rfl)) ?_
    refine wp_val (.ptr (ix ids 0) g 0 0) rfl rfl pv_move ?_
    refine wp_val (.ptr (ix ids 0) g 0 0) rfl rfl (pv_nilCheck rfl) ?_
    refine wp_val (.ptr (ix ids 0) g 0 1) rfl rfl (pv_fa (fa_ptr (c := 0) (off := 1) (i := 1) ti49 rfl ti3 rfl)) ?_
    refine wp_val (.int .i64 s0_at) rfl rfl (pv_load (ld_ptr hI rfl rfl rfl ti3 rfl)) ?_
    refine wp_val (.int .i64 (IntKind.wrap .i64 (s0_at + 1))) rfl rfl (pv_bin rfl rfl rfl) ?_
    refine op_need fun hs2 => ?_
    refine wp_val (.str (cut s0_src s0_at (IntKind.wrap .i64 (s0_at + 1)))) rfl rfl (pv_slice (sl_str ti9 hs2)) ?_
    refine wp_val (.str (cut s0_src s0_at (IntKind.wrap .i64 (s0_at + 1)))) rfl rfl pv_assign ?_
    refine wp_nil ?_
    refine wr_region ?_
    refine wo_val (.ptr (ix ids 0) g 0 0) rfl pv_move ?_
    refine wo_val (.str (cut s0_src s0_at (IntKind.wrap .i64 (s0_at + 1)))) rfl pv_move ?_
    refine wo_val (.str (cut s0_src s0_at (IntKind.wrap .i64 (s0_at + 1)))) rfl pv_move ?_
    refine wo_val (.agg [(.int .i64 3), (.str (cut s0_src s0_at (IntKind.wrap .i64 (s0_at + 1)))), (.int .i64 0), (.int .i64 0)]) rfl (pv_build (bd_st ti35 pl35 rfl)) ?_
    refine of_callG [0, 1] hI rfl rfl (cg_lex_scanner_add_2 (cut s0_src s0_at (IntKind.wrap .i64 (s0_at + 1))) ({ Kind := 3, Text := (cut s0_src s0_at (IntKind.wrap .i64 (s0_at + 1))), N := 0, At := 0 } : Token) s0_src s0_at l _ (ix ids 0) (ix ids 1) g v1 g1 vH (by exact hI.sub' rfl rfl)) rfl rfl rfl rfl rfl rfl (fun v _ => wu_panG (K := 2) (N := 0) Tryd.func29 hI) ?_
    rintro r1 _ _ _ ⟨v2, g2, vH1, rfl, rfl⟩
    refine wo_putH [0, 1] [(some (.rows g 3 [[(.str s0_src), (.int .i64 (IntKind.wrap .i64 (s0_at + ((cut s0_src s0_at (IntKind.wrap .i64 (s0_at + 1))).length : Int)))), v2]])), (ownO v2 g2 4 (List.map rToken r1))] hI rfl rfl rfl rfl ?_
    refine wo_put1 ?_
    refine wo_nil ?_
    refine wr_hp [(some (.rows g 3 [[(.str s0_src), (.int .i64 (IntKind.wrap .i64 (s0_at + ((cut s0_src s0_at (IntKind.wrap .i64 (s0_at + 1))).length : Int)))), v2]])), (ownO v2 g2 4 (List.map rToken r1))] rfl ?_
    exact wr_endG (K := 2) (N := 0) (a := ((IntKind.wrap .i64 (s0_at + ((cut s0_src s0_at (IntKind.wrap .i64 (s0_at + 1))).length : Int))), r1)) (vs := []) [some (.rows g 3 [[(.str s0_src), (.int .i64 (IntKind.wrap .i64 (s0_at + ((cut s0_src s0_at (IntKind.wrap .i64 (s0_at + 1))).length : Int)))), v2]]), ownO v2 g2 4 (List.map rToken r1)] Tryd.func29 hI rfl rfl rfl (.keep (.keep .nil)) (.same _) ⟨v2, g2, vH1, rfl, rfl⟩

theorem cdr_lex_Lex_c1 (a0 : AV) (a1 : AV) (a2 : AV) (h : AHeap) : ADefer Tryd.prog 24 [a0, a1, a2] .ret h (DAns (fun _ : Unit => h) .ret (.ok ())) := by
  refine cd_intro (n := 9) Tryd.func24 rfl (by decide) rfl rfl ?_ ⟨(), rfl⟩
  refine wr_seq ?_
  refine wr_region ?_
  refine wo_recR rfl ?_
  refine wo_val .nili rfl pv_assign ?_
  refine wo_nil ?_
  refine wr_seq ?_
  refine wr_region ?_
  refine wo_val .nili rfl pv_move ?_
  refine wo_val (.bool false) rfl (pv_bin rfl rfl (bin_nnn ti20)) ?_
  refine wo_nil ?_
  refine wr_cond false rfl ?_
  refine wr_skip ?_
  exact wr_endD Tryd.func24 rfl rfl rfl

theorem cdp_lex_Lex_c1_h42 (n : Int) (h0 : AHeap) (ids : List Nat) (hI : Ids h0 ids 3) (g0_ : Nat) (g1_ : Nat) (g2_ : Nat) (r0_ : List AV) (r1_ : List AV) (r2_ : List AV) (hr0_ : r0_.length = 1) (hr1_ : r1_.length = 1) (hr2_ : r2_.length = 1) : (∃ a, lex_Lex_c1_h42 n = .ok a) → ADefer Tryd.prog 24 [(.ptr (ix ids 0) g0_ 0 0), (.ptr (ix ids 1) g1_ 0 0), (.ptr (ix ids 2) g2_ 0 0)] (.pan (.iface 42 (.int .i64 n)) false) (hp h0 ids [some (.rows g0_ 1 [r0_]), some (.rows g1_ 1 [r1_]), some (.rows g2_ 1 [r2_])]) (DAns (fun p => hp h0 ids [some (.rows g0_ 1 [[.emp]]), some (.rows g1_ 1 [[(.int .i64 p)]]), some (.rows g2_ 1 [[(.int .i64 70)]])]) (.pan (.iface 42 (.int .i64 n)) true) (lex_Lex_c1_h42 n)) := by
  refine cd_intro (n := 9) Tryd.func24 rfl (by decide) rfl rfl ?_
  refine wr_in (wr_mod (lex_Lex_c1_h42.eq_1 _) ?_)
  refine wr_seq ?_
  refine wr_region ?_
  refine wo_recP rfl ?_
  refine wo_val (.iface 42 (.int .i64 n)) rfl pv_assign ?_
  refine wo_nil ?_
  refine wr_seq ?_
  refine wr_region ?_
  refine wo_val (.iface 42 (.int .i64 n)) rfl pv_move ?_
  refine wo_val (.bool true) rfl (pv_bin rfl rfl (bin_ifnn ti20)) ?_
  refine wo_nil ?_
  refine wr_cond true rfl ?_
  refine wr_draw hmix [[], [0], [], [0, 1, 1, 2, 2], [0, 1, 2, 3, 3]] [(false, 0), (false, 1), (true, 2), (true, 3), (true, 4)] (by kernel_rfl) ?_
  refine wp_val (.iface 42 (.int .i64 n)) rfl rfl pv_move ?_
  refine wp_val (.int .i64 n) rfl rfl (pv_as (as_ok ti42 (by decide))) ?_
  refine wp_op0 rfl (fun _ _ => rfl) (fun K hK => eff_store (st_ptrA hI rfl rfl rfl ti23 rfl rfl rfl hr0_ rfl) (hK _ _ (pend_no rfl (pv_as (as_ok ti42 (by decide))) (pend_no rfl pv_move pend_nil)) ?_)) 
  clear hK K
  refine wp_op0 rfl (fun _ _ => rfl) (fun K hK => eff_store (st_ptrA hI rfl rfl rfl ti3 rfl rfl rfl hr1_ rfl) (hK _ _ (pend_yes rfl (pend_yes rfl pend_nil)) ?_)) 
  clear hK K
  refine wp_op0 rfl (fun _ _ => rfl) (fun K hK => eff_store (st_ptrA hI rfl rfl rfl ti24 rfl rfl rfl hr2_ rfl) (hK _ _ (pend_yes rfl (pend_yes rfl pend_nil)) ?_)) 
  clear hK K
  refine wp_nil ?_
  refine wr_hp [(some (.rows g0_ 1 [[.emp]])), (some (.rows g1_ 1 [[(.int .i64 n)]])), (some (.rows g2_ 1 [[(.int .i64 70)]]))] rfl ?_
  exact wr_endD (a := n) Tryd.func24 rfl rfl rfl

theorem cp_lex_Lex (src : Str) : CP Tryd.prog 12 [(.str src)] (lex_Lex src) (fun (p : ((List Token) × Int × Int)) => AV.tup [(.sl 4 (List.map rToken p.1)), (.int .i64 p.2.1), (.int .i64 p.2.2)]) := by
  show CP _ _ _ ((lex_Lex_m src).catch' (catchI 42 .i64 (fun n => (lex_Lex_c1_h42 n).bind fun p => .ok ([], p, 70)) (fun _ => .bad))) _
  refine cpc_intro (n := 39) 6 Tryd.func12 rfl (by decide) rfl rfl fun h0 ids hI => ?_
  have hU : ∀ (v : PV) (fr : Nat → AV) (xs : List (Option AO)) (g0_ : Nat) (r0_ : List AV) (g1_ : Nat) (r1_ : List AV) (g2_ : Nat) (r2_ : List AV) (hl_ : xs.length = 6) (hr0_ : r0_.length = 1) (hr1_ : r1_.length = 1) (hr2_ : r2_.length = 1) (hy_ : xs.take 3 = [some (.rows g0_ 1 [r0_]), some (.rows g1_ 1 [r1_]), some (.rows g2_ 1 [r2_])]) (hq2_ : fr 2 = .ptr (ix ids 0) g0_ 0 0) (hq3_ : fr 3 = .ptr (ix ids 1) g1_ 0 0) (hq4_ : fr 4 = .ptr (ix ids 2) g2_ 0 0), WU Tryd.prog 12 39 false (SpecC (fun (p : ((List Token) × Int × Int)) => AV.tup [(.sl 4 (List.map rToken p.1)), (.int .i64 p.2.1), (.int .i64 p.2.2)]) h0 (catchI 42 .i64 (fun n => (lex_Lex_c1_h42 n).bind fun p => .ok ([], p, 70)) (fun _ => .bad))) (.pan v) (.pan v.av false) fr [⟨24, [.ptr (ix ids 0) g0_ 0 0, .ptr (ix ids 1) g1_ 0 0, .ptr (ix ids 2) g2_ 0 0]⟩] (hp h0 ids xs) .ret := by
    intro v fr xs g0_ r0_ g1_ r1_ g2_ r2_ hl_ hr0_ hr1_ hr2_ hy_ hq2_ hq3_ hq4_
    refine wu_hI (t := 42) (k := .i64) rfl (fun n hv => ?_) (fun hne42 => ?_)
    · subst hv
      exact wu_catch (Hc := lex_Lex_c1_h42 n) (fin := fun p => ([], p, 70)) (c := 3) (cells := fun p => [some (.rows g0_ 1 [[.emp]]), some (.rows g1_ 1 [[(.int .i64 p)]]), some (.rows g2_ 1 [[(.int .i64 70)]])]) (vs := fun p => [.emp, (.int .i64 p), (.int .i64 70)]) Tryd.func12 hI hl_ rfl hy_ (by first | (rw [catchI_eq]; done) | (rw [catchI_eq]; rfl)) (fun hx => by have := cdp_lex_Lex_c1_h42 n h0 (ids.take 3) (hI.take rfl) g0_ g1_ g2_ r0_ r1_ r2_ hr0_ hr1_ hr2_ hx; simp only [ix_take (c := 3) (j := 0) rfl, ix_take (c := 3) (j := 1) rfl, ix_take (c := 3) (j := 2) rfl] at this; exact this) (by intro w; simp [lex_Lex_c1_h42]) (fun p => (ares_cell' hq2_ (ld_ptr' (hI.take rfl) (ix_take rfl) rfl rfl rfl ti23 rfl) (ares_cell' hq3_ (ld_ptr' (hI.take rfl) (ix_take rfl) rfl rfl rfl ti3 rfl) (ares_cell' hq4_ (ld_ptr' (hI.take rfl) (ix_take rfl) rfl rfl rfl ti24 rfl) ares_nil)))) (fun p => (.tupL (.cons (.emp _) (.cons (.same _) (.cons (.same _) .nil)))))
    exact wu_hN (by rw [catchI_ne hne42])
  refine wr_in (wr_mod (lex_Lex_m.eq_1 _) ?_)
  refine wr_seq ?_
  refine wr_region ?_
  refine wo_alloc (j := 0) hI rfl rfl rfl rfl ti23 rfl fun g => ?_
  refine wo_alloc (j := 1) hI rfl rfl rfl rfl ti3 rfl fun g1 => ?_
  refine wo_alloc (j := 2) hI rfl rfl rfl rfl ti24 rfl fun g2 => ?_
  refine wo_nil ?_
  refine wr_hp [(some (.rows g 1 [[.emp]])), (some (.rows g1 1 [[(.int .i64 0)]])), (some (.rows g2 1 [[(.int .i64 0)]])), none, none, none] rfl ?_
  refine wr_seq ?_
  refine wr_seq ?_
  refine wr_region ?_
  refine wo_val (.str src) rfl pv_move ?_
  refine wo_val (.int .i64 (src.length : Int)) rfl (pv_len (len_str ti9)) ?_
  refine wo_val (.bool (decide ((src.length : Int) > 65536))) rfl (pv_bin rfl rfl rfl) ?_
  refine wo_nil ?_
  refine wf_ite rfl (fun hc => ?_) (fun hc => ?_)
  · refine wr_seq ?_
    refine wr_region ?_
    refine wo_store (st_ptr hI rfl rfl rfl rfl ti23 rfl rfl rfl rfl rfl) ?_
    refine wo_store (st_ptr hI rfl rfl rfl rfl ti3 rfl rfl rfl rfl rfl) ?_
    refine wo_store (st_ptr hI rfl rfl rfl rfl ti24 rfl rfl rfl rfl rfl) ?_
    refine wo_nil ?_
    refine wr_hp [(some (.rows g 1 [[.emp]])), (some (.rows g1 1 [[(.int .i64 0)]])), (some (.rows g2 1 [[(.int .i64 2)]])), none, none, none] rfl ?_
    exact wr_retC0 (a := ([], 0, 2)) (vs := [.emp, (.int .i64 0), (.int .i64 2)]) Tryd.func12 hI (ares_cell (ld_ptr hI rfl rfl rfl ti23 rfl) (ares_cell (ld_ptr hI rfl rfl rfl ti3 rfl) (ares_cell (ld_ptr hI rfl rfl rfl ti24 rfl) ares_nil))) (.tupL (.cons (.emp _) (.cons (.same _) (.cons (.same _) .nil))))
  · refine wr_skip ?_
    refine wr_seq ?_
    refine wr_region ?_
    refine wo_val (.func (.func 24) [] [(.ptr (ix ids 0) g 0 0), (.ptr (ix ids 1) g1 0 0), (.ptr (ix ids 2) g2 0 0)]) rfl pv_func ?_
    refine wo_defer rfl rfl rfl ?_
    refine wo_nil ?_
    refine wr_seq ?_
    refine wr_region ?_
    refine wo_alloc (j := 3) hI rfl rfl rfl rfl ti46 rfl fun g3 => ?_
    refine wo_nil ?_
    refine wr_hp [(some (.rows g 1 [[.emp]])), (some (.rows g1 1 [[(.int .i64 0)]])), (some (.rows g2 1 [[(.int .i64 0)]])), (some (.rows g3 6 [[.nilf, .nilf, .nilf, .nilf, .nilf, .nilf]])), none, none] rfl ?_
    refine wr_seq ?_
    refine wr_region ?_
    refine wo_val (.agg [(.func (.func 25) [] []), (.func (.func 26) [] []), (.func (.func 27) [] []), (.func (.func 28) [] []), (.func (.func 29) [] []), (.func (.func 25) [] [])]) rfl (pv_build (bd_arr ti44 ti43 rfl)) ?_
    refine wo_val (.ptr (ix ids 3) g3 0 0) rfl (pv_fa (fa_ptr (c := 0) (off := 0) (i := 0) ti46 rfl ti44 rfl)) ?_
    refine wo_store (st_ptr hI rfl rfl rfl rfl ti44 rfl rfl rfl rfl rfl) ?_
    refine wo_nil ?_
    refine wr_hp [(some (.rows g 1 [[.emp]])), (some (.rows g1 1 [[(.int .i64 0)]])), (some (.rows g2 1 [[(.int .i64 0)]])), (some (.rows g3 6 [[(.func (.func 25) [] []), (.func (.func 26) [] []), (.func (.func 27) [] []), (.func (.func 28) [] []), (.func (.func 29) [] []), (.func (.func 25) [] [])]])), none, none] rfl ?_
    refine wr_seq ?_
    refine wr_region ?_
    refine wo_val (.str src) rfl pv_move ?_
    refine wo_val (.agg [(.str src), (.int .i64 0), .emp]) rfl (pv_build (bd_st ti49 pl49 rfl)) ?_
    refine wo_box (v := (.agg [(.str src), (.int .i64 0), .emp])) (j := 4) hI rfl rfl rfl rfl rfl rfl rfl fun g4 => ?_
    refine wo_val (.ptr (ix ids 4) g4 0 0) rfl pv_assign ?_
    refine wo_nil ?_
    refine wr_hp [(some (.rows g 1 [[.emp]])), (some (.rows g1 1 [[(.int .i64 0)]])), (some (.rows g2 1 [[(.int .i64 0)]])), (some (.rows g3 6 [[(.func (.func 25) [] []), (.func (.func 26) [] []), (.func (.func 27) [] []), (.func (.func 28) [] []), (.func (.func 29) [] []), (.func (.func 25) [] [])]])), (some (.rows g4 3 [[(.str src), (.int .i64 0), .emp]])), none] rfl ?_
    refine wr_seq ?_
    refine wf_join (un2 fun fAt3 l1 => lex_Lex_j1 fAt3 l1) (un2 fun fAt3 l1 => fun (fr : Nat → AV) (h : AHeap) => ∃ (v4 : AV), ∃ (g9 : Nat), OwnV v4 (ix ids 5) g9 l1.length ∧ fr = frA [(2, (.ptr (ix ids 0) g 0 0)), (3, (.ptr (ix ids 1) g1 0 0)), (4, (.ptr (ix ids 2) g2 0 0)), (6, (.ptr (ix ids 4) g4 0 0))] ∧ h = hp h0 ids [(some (.rows g 1 [[.emp]])), (some (.rows g1 1 [[(.int .i64 0)]])), (some (.rows g2 1 [[(.int .i64 0)]])), none, (some (.rows g4 3 [[(.str src), (.int .i64 fAt3), v4]])), (ownO v4 g9 4 (List.map rToken l1))]) ?_ fun hJ => ?_
    · rintro ⟨fAt3, l1⟩ fr h ⟨v4, g9, vH4, rfl, rfl⟩
      refine wr_mod (lex_Lex_j1.eq_1 _ _) ?_
      refine wr_seq ?_
      refine wr_region ?_
      refine wo_val (.ptr (ix ids 4) g4 0 0) rfl pv_move ?_
      refine wo_val (.ptr (ix ids 4) g4 0 0) rfl (pv_nilCheck rfl) ?_
      refine wo_val (.ptr (ix ids 4) g4 0 2) rfl (pv_fa (fa_ptr (c := 0) (off := 2) (i := 2) ti49 rfl ti23 rfl)) ?_
      refine wo_val v4 rfl (pv_load (ld_ptr hI rfl rfl rfl ti23 rfl)) ?_
      refine wo_store (st_ptrO vH4 hI rfl rfl rfl rfl ti23 rfl rfl rfl) ?_
      refine wo_store (st_ptr hI rfl rfl rfl rfl ti3 rfl rfl rfl rfl rfl) ?_
      refine wo_store (st_ptr hI rfl rfl rfl rfl ti24 rfl rfl rfl rfl rfl) ?_
      refine wo_nil ?_
      refine wr_hp [(some (.rows g 1 [[v4]])), (some (.rows g1 1 [[(.int .i64 0)]])), (some (.rows g2 1 [[(.int .i64 0)]])), none, (some (.rows g4 3 [[(.str src), (.int .i64 fAt3), v4]])), (ownO v4 g9 4 (List.map rToken l1))] rfl ?_
      exact wr_retC (a := (l1, 0, 0)) (vs := [v4, (.int .i64 0), (.int .i64 0)]) Tryd.func12 hI (cdr_lex_Lex_c1 _ _ _ _) (ares_cell (ld_ptr hI rfl rfl rfl ti23 rfl) (ares_cell (ld_ptr hI rfl rfl rfl ti3 rfl) (ares_cell (ld_ptr hI rfl rfl rfl ti24 rfl) ares_nil))) (.tupL (.cons (own_fz vH4 (hI.at rfl rfl) (hI.out rfl) (fun x => ok_Token x)) (.cons (.same _) (.cons (.same _) .nil))))
    · refine wr_block ?_
      refine wr_is [(0, (.str src)), (2, (.ptr (ix ids 0) g 0 0)), (3, (.ptr (ix ids 1) g1 0 0)), (4, (.ptr (ix ids 2) g2 0 0)), (5, (.ptr (ix ids 3) g3 0 0)), (6, (.ptr (ix ids 4) g4 0 0))] (.cons rfl (.cons rfl (.cons rfl (.cons rfl (.cons rfl (.cons rfl .nil)))))) ?_
      refine wf_loop' (P := Tryd.prog) (un2 fun fAt l => lex_Lex_b1 src fAt l) ((un2 fun fAt3 l1 => lex_Lex_j1 fAt3 l1) : (Int × (List Token)) → R ((List Token) × Int × Int))
        (un2 fun fAt l => fun (fr : Nat → AV) (h : AHeap) => ∃ (v : AV), ∃ (g5 : Nat), OwnV v (ix ids 5) g5 l.length ∧ fr = frA [(0, (.str src)), (2, (.ptr (ix ids 0) g 0 0)), (3, (.ptr (ix ids 1) g1 0 0)), (4, (.ptr (ix ids 2) g2 0 0)), (5, (.ptr (ix ids 3) g3 0 0)), (6, (.ptr (ix ids 4) g4 0 0))] ∧ h = hp h0 ids [(some (.rows g 1 [[.emp]])), (some (.rows g1 1 [[(.int .i64 0)]])), (some (.rows g2 1 [[(.int .i64 0)]])), (some (.rows g3 6 [[(.func (.func 25) [] []), (.func (.func 26) [] []), (.func (.func 27) [] []), (.func (.func 28) [] []), (.func (.func 29) [] []), (.func (.func 25) [] [])]])), (some (.rows g4 3 [[(.str src), (.int .i64 fAt), v]])), (ownO v g5 4 (List.map rToken l))]) (0, []) ?_ ?_
      · exact ⟨.emp, 0, .nil, rfl, rfl⟩
      · rintro vW hW ⟨fAt, l⟩ fr h ⟨v, g5, vH, rfl, rfl⟩
        refine wr_mod (m' := lex_Lex_b1 src fAt l) rfl (wr_mod (lex_Lex_b1.eq_1 _ _ _) ?_)
        refine wr_seq ?_
        refine wr_seq ?_
        refine wr_region ?_
        refine wo_val (.ptr (ix ids 4) g4 0 0) rfl pv_move ?_
        refine wo_val (.ptr (ix ids 4) g4 0 0) rfl (pv_nilCheck rfl) ?_
        refine wo_val (.ptr (ix ids 4) g4 0 1) rfl (pv_fa (fa_ptr (c := 0) (off := 1) (i := 1) ti49 rfl ti3 rfl)) ?_
        refine wo_val (.int .i64 fAt) rfl (pv_load (ld_ptr hI rfl rfl rfl ti3 rfl)) ?_
        refine wo_val (.str src) rfl pv_move ?_
        refine wo_val (.int .i64 (src.length : Int)) rfl (pv_len (len_str ti9)) ?_
        refine wo_val (.bool (decide (fAt < (src.length : Int)))) rfl (pv_bin rfl rfl rfl) ?_
        refine wo_nil ?_
        refine wf_ite rfl (fun hc1 => ?_) (fun hc1 => ?_)
        · refine wr_skip ?_
          refine wr_block ?_
          refine wr_region ?_
          refine wo_val (.str src) rfl pv_move ?_
          refine wo_val (.ptr (ix ids 4) g4 0 0) rfl pv_move ?_
          refine wo_val (.ptr (ix ids 4) g4 0 0) rfl (pv_nilCheck rfl) ?_
          refine wo_val (.ptr (ix ids 4) g4 0 1) rfl (pv_fa (fa_ptr (c := 0) (off := 1) (i := 1) ti49 rfl ti3 rfl)) ?_
          refine wo_val (.int .i64 fAt) rfl (pv_load (ld_ptr hI rfl rfl rfl ti3 rfl)) ?_
          refine of_idx fun a hz hx1 => ?_
          refine wo_val (.int .u8 (a.toNat : Int)) rfl (pv_ix (ix_str ti9 hz hx1)) ?_
          refine of_call [(.int .u8 (a.toNat : Int))] rfl rfl rfl rfl ((cp_lex_class (a.toNat : Int)) _) (fun v _ => hU v _ _ _ _ _ _ _ _ rfl rfl rfl rfl rfl rfl rfl rfl) fun r _ => ?_
          refine wo_val (.ptr (ix ids 3) g3 0 0) rfl (pv_fa (fa_ptr (c := 0) (off := 0) (i := 0) ti46 rfl ti44 rfl)) ?_
          refine of_itep (fun hi => ?_) (fun _ => ?_)
          · refine wo_val (.ptr (ix ids 3) g3 0 0) rfl (pv_ixa (ixa_arrp 0 ti44 ti43 hi rfl)) ?_
            refine wo_val (.func (.func 25) [] []) rfl (pv_load (ld_ptr hI rfl rfl rfl ti43 rfl)) ?_
            refine wo_val (.ptr (ix ids 4) g4 0 0) rfl pv_move ?_
            refine of_call [(.ptr (ix ids 4) g4 0 0)] rfl rfl rfl rfl (CP.lend (cp_lex_scanner_wrong ({ fSrc := src, fAt := fAt, fL := l } : T48)) (LF.lfz (.cons (.ptrL (hI.at rfl rfl) rfl rfl (.cons (.same _) (.cons (.same _) (.cons (own_fz vH (hI.at rfl rfl) rfl (fun x => ok_Token x)) .nil)))) .nil)) (fun _ _ => .tup0)) (fun v _ => hU v _ _ _ _ _ _ _ _ rfl rfl rfl rfl rfl rfl rfl rfl) fun _ _ => ?_
            refine wo_nil ?_
            refine wr_inBlock ?_
            refine wr_is [(0, (.str src)), (2, (.ptr (ix ids 0) g 0 0)), (3, (.ptr (ix ids 1) g1 0 0)), (4, (.ptr (ix ids 2) g2 0 0)), (5, (.ptr (ix ids 3) g3 0 0)), (6, (.ptr (ix ids 4) g4 0 0))] (.cons rfl (.cons rfl (.cons rfl (.cons rfl (.cons rfl (.cons rfl .nil)))))) ?_
            refine wb_loop ?_
            refine hW (fAt, l) _ _ ?_
            exact ⟨v, g5, vH, rfl, rfl⟩
          · refine of_itep (fun hi => ?_) (fun _ => ?_)
            · refine wo_val (.ptr (ix ids 3) g3 0 1) rfl (pv_ixa (ixa_arrp 1 ti44 ti43 hi rfl)) ?_
              refine wo_val (.func (.func 26) [] []) rfl (pv_load (ld_ptr hI rfl rfl rfl ti43 rfl)) ?_
              refine wo_val (.ptr (ix ids 4) g4 0 0) rfl pv_move ?_
              refine of_callG [4, 5] hI rfl rfl (cg_lex_scanner_space_2 src fAt l _ (ix ids 4) (ix ids 5) g4 v g5 vH (by exact hI.sub' rfl rfl)) rfl rfl rfl rfl rfl rfl (fun v _ => hU v _ _ _ _ _ _ _ _ rfl rfl rfl rfl rfl rfl rfl rfl) ?_
              rintro r2 _ _ _ ⟨rfl, rfl⟩
              refine wo_putH [4, 5] [(some (.rows g 1 [[.emp]])), (some (.rows g1 1 [[(.int .i64 0)]])), (some (.rows g2 1 [[(.int .i64 0)]])), (some (.rows g3 6 [[(.func (.func 25) [] []), (.func (.func 26) [] []), (.func (.func 27) [] []), (.func (.func 28) [] []), (.func (.func 29) [] []), (.func (.func 25) [] [])]])), (some (.rows g4 3 [[(.str src), (.int .i64 r2), v]])), (ownO v g5 4 (List.map rToken l))] hI rfl rfl rfl rfl ?_
              refine wo_put1 ?_
              refine wo_nil ?_
              refine wr_hp [(some (.rows g 1 [[.emp]])), (some (.rows g1 1 [[(.int .i64 0)]])), (some (.rows g2 1 [[(.int .i64 0)]])), (some (.rows g3 6 [[(.func (.func 25) [] []), (.func (.func 26) [] []), (.func (.func 27) [] []), (.func (.func 28) [] []), (.func (.func 29) [] []), (.func (.func 25) [] [])]])), (some (.rows g4 3 [[(.str src), (.int .i64 r2), v]])), (ownO v g5 4 (List.map rToken l))] rfl ?_
              refine wr_inBlock ?_
              refine wr_is [(0, (.str src)), (2, (.ptr (ix ids 0) g 0 0)), (3, (.ptr (ix ids 1) g1 0 0)), (4, (.ptr (ix ids 2) g2 0 0)), (5, (.ptr (ix ids 3) g3 0 0)), (6, (.ptr (ix ids 4) g4 0 0))] (.cons rfl (.cons rfl (.cons rfl (.cons rfl (.cons rfl (.cons rfl .nil)))))) ?_
              refine wb_loop ?_
              refine hW (r2, l) _ _ ?_
              exact ⟨v, g5, vH, rfl, rfl⟩
            · refine of_itep (fun hi => ?_) (fun _ => ?_)
              · refine wo_val (.ptr (ix ids 3) g3 0 2) rfl (pv_ixa (ixa_arrp 2 ti44 ti43 hi rfl)) ?_
                refine wo_val (.func (.func 27) [] []) rfl (pv_load (ld_ptr hI rfl rfl rfl ti43 rfl)) ?_
                refine wo_val (.ptr (ix ids 4) g4 0 0) rfl pv_move ?_
                refine of_callG [4, 5] hI rfl rfl (cg_lex_scanner_name_2 src fAt l _ (ix ids 4) (ix ids 5) g4 v g5 vH (by exact hI.sub' rfl rfl)) rfl rfl rfl rfl rfl rfl (fun v _ => hU v _ _ _ _ _ _ _ _ rfl rfl rfl rfl rfl rfl rfl rfl) ?_
                rintro r3 _ _ _ ⟨v1, g6, vH1, rfl, rfl⟩
                refine wo_putH [4, 5] [(some (.rows g 1 [[.emp]])), (some (.rows g1 1 [[(.int .i64 0)]])), (some (.rows g2 1 [[(.int .i64 0)]])), (some (.rows g3 6 [[(.func (.func 25) [] []), (.func (.func 26) [] []), (.func (.func 27) [] []), (.func (.func 28) [] []), (.func (.func 29) [] []), (.func (.func 25) [] [])]])), (some (.rows g4 3 [[(.str src), (.int .i64 r3.1), v1]])), (ownO v1 g6 4 (List.map rToken r3.2))] hI rfl rfl rfl rfl ?_
                refine wo_put1 ?_
                refine wo_nil ?_
                refine wr_hp [(some (.rows g 1 [[.emp]])), (some (.rows g1 1 [[(.int .i64 0)]])), (some (.rows g2 1 [[(.int .i64 0)]])), (some (.rows g3 6 [[(.func (.func 25) [] []), (.func (.func 26) [] []), (.func (.func 27) [] []), (.func (.func 28) [] []), (.func (.func 29) [] []), (.func (.func 25) [] [])]])), (some (.rows g4 3 [[(.str src), (.int .i64 r3.1), v1]])), (ownO v1 g6 4 (List.map rToken r3.2))] rfl ?_
                refine wr_inBlock ?_
                refine wr_is [(0, (.str src)), (2, (.ptr (ix ids 0) g 0 0)), (3, (.ptr (ix ids 1) g1 0 0)), (4, (.ptr (ix ids 2) g2 0 0)), (5, (.ptr (ix ids 3) g3 0 0)), (6, (.ptr (ix ids 4) g4 0 0))] (.cons rfl (.cons rfl (.cons rfl (.cons rfl (.cons rfl (.cons rfl .nil)))))) ?_
                refine wb_loop ?_
                refine hW (r3.1, r3.2) _ _ ?_
                exact ⟨v1, g6, vH1, rfl, rfl⟩
              · refine of_itep (fun hi => ?_) (fun _ => ?_)
                · refine wo_val (.ptr (ix ids 3) g3 0 3) rfl (pv_ixa (ixa_arrp 3 ti44 ti43 hi rfl)) ?_
                  refine wo_val (.func (.func 28) [] []) rfl (pv_load (ld_ptr hI rfl rfl rfl ti43 rfl)) ?_
                  refine wo_val (.ptr (ix ids 4) g4 0 0) rfl pv_move ?_
                  refine of_callG [4, 5] hI rfl rfl (cg_lex_scanner_number_2 src fAt l _ (ix ids 4) (ix ids 5) g4 v g5 vH (by exact hI.sub' rfl rfl)) rfl rfl rfl rfl rfl rfl (fun v _ => hU v _ _ _ _ _ _ _ _ rfl rfl rfl rfl rfl rfl rfl rfl) ?_
                  rintro r4 _ _ _ ⟨v2, g7, vH2, rfl, rfl⟩
                  refine wo_putH [4, 5] [(some (.rows g 1 [[.emp]])), (some (.rows g1 1 [[(.int .i64 0)]])), (some (.rows g2 1 [[(.int .i64 0)]])), (some (.rows g3 6 [[(.func (.func 25) [] []), (.func (.func 26) [] []), (.func (.func 27) [] []), (.func (.func 28) [] []), (.func (.func 29) [] []), (.func (.func 25) [] [])]])), (some (.rows g4 3 [[(.str src), (.int .i64 r4.1), v2]])), (ownO v2 g7 4 (List.map rToken r4.2))] hI rfl rfl rfl rfl ?_
                  refine wo_put1 ?_
                  refine wo_nil ?_
                  refine wr_hp [(some (.rows g 1 [[.emp]])), (some (.rows g1 1 [[(.int .i64 0)]])), (some (.rows g2 1 [[(.int .i64 0)]])), (some (.rows g3 6 [[(.func (.func 25) [] []), (.func (.func 26) [] []), (.func (.func 27) [] []), (.func (.func 28) [] []), (.func (.func 29) [] []), (.func (.func 25) [] [])]])), (some (.rows g4 3 [[(.str src), (.int .i64 r4.1), v2]])), (ownO v2 g7 4 (List.map rToken r4.2))] rfl ?_
                  refine wr_inBlock ?_
                  refine wr_is [(0, (.str src)), (2, (.ptr (ix ids 0) g 0 0)), (3, (.ptr (ix ids 1) g1 0 0)), (4, (.ptr (ix ids 2) g2 0 0)), (5, (.ptr (ix ids 3) g3 0 0)), (6, (.ptr (ix ids 4) g4 0 0))] (.cons rfl (.cons rfl (.cons rfl (.cons rfl (.cons rfl (.cons rfl .nil)))))) ?_
                  refine wb_loop ?_
                  refine hW (r4.1, r4.2) _ _ ?_
                  exact ⟨v2, g7, vH2, rfl, rfl⟩
                · refine of_itep (fun hi => ?_) (fun _ => ?_)
                  · refine wo_val (.ptr (ix ids 3) g3 0 4) rfl (pv_ixa (ixa_arrp 4 ti44 ti43 hi rfl)) ?_
                    refine wo_val (.func (.func 29) [] []) rfl (pv_load (ld_ptr hI rfl rfl rfl ti43 rfl)) ?_
                    refine wo_val (.ptr (ix ids 4) g4 0 0) rfl pv_move ?_
                    refine of_callG [4, 5] hI rfl rfl (cg_lex_scanner_sign_2 src fAt l _ (ix ids 4) (ix ids 5) g4 v g5 vH (by exact hI.sub' rfl rfl)) rfl rfl rfl rfl rfl rfl (fun v _ => hU v _ _ _ _ _ _ _ _ rfl rfl rfl rfl rfl rfl rfl rfl) ?_
                    rintro r5 _ _ _ ⟨v3, g8, vH3, rfl, rfl⟩
                    refine wo_putH [4, 5] [(some (.rows g 1 [[.emp]])), (some (.rows g1 1 [[(.int .i64 0)]])), (some (.rows g2 1 [[(.int .i64 0)]])), (some (.rows g3 6 [[(.func (.func 25) [] []), (.func (.func 26) [] []), (.func (.func 27) [] []), (.func (.func 28) [] []), (.func (.func 29) [] []), (.func (.func 25) [] [])]])), (some (.rows g4 3 [[(.str src), (.int .i64 r5.1), v3]])), (ownO v3 g8 4 (List.map rToken r5.2))] hI rfl rfl rfl rfl ?_
                    refine wo_put1 ?_
                    refine wo_nil ?_
                    refine wr_hp [(some (.rows g 1 [[.emp]])), (some (.rows g1 1 [[(.int .i64 0)]])), (some (.rows g2 1 [[(.int .i64 0)]])), (some (.rows g3 6 [[(.func (.func 25) [] []), (.func (.func 26) [] []), (.func (.func 27) [] []), (.func (.func 28) [] []), (.func (.func 29) [] []), (.func (.func 25) [] [])]])), (some (.rows g4 3 [[(.str src), (.int .i64 r5.1), v3]])), (ownO v3 g8 4 (List.map rToken r5.2))] rfl ?_
                    refine wr_inBlock ?_
                    refine wr_is [(0, (.str src)), (2, (.ptr (ix ids 0) g 0 0)), (3, (.ptr (ix ids 1) g1 0 0)), (4, (.ptr (ix ids 2) g2 0 0)), (5, (.ptr (ix ids 3) g3 0 0)), (6, (.ptr (ix ids 4) g4 0 0))] (.cons rfl (.cons rfl (.cons rfl (.cons rfl (.cons rfl (.cons rfl .nil)))))) ?_
                    refine wb_loop ?_
                    refine hW (r5.1, r5.2) _ _ ?_
                    exact ⟨v3, g8, vH3, rfl, rfl⟩
                  · refine of_itep (fun hi => ?_) (fun _ => ?_)
                    · refine wo_val (.ptr (ix ids 3) g3 0 5) rfl (pv_ixa (ixa_arrp 5 ti44 ti43 hi rfl)) ?_
                      refine wo_val (.func (.func 25) [] []) rfl (pv_load (ld_ptr hI rfl rfl rfl ti43 rfl)) ?_
                      refine wo_val (.ptr (ix ids 4) g4 0 0) rfl pv_move ?_
                      refine of_call [(.ptr (ix ids 4) g4 0 0)] rfl rfl rfl rfl (CP.lend (cp_lex_scanner_wrong ({ fSrc := src, fAt := fAt, fL := l } : T48)) (LF.lfz (.cons (.ptrL (hI.at rfl rfl) rfl rfl (.cons (.same _) (.cons (.same _) (.cons (own_fz vH (hI.at rfl rfl) rfl (fun x => ok_Token x)) .nil)))) .nil)) (fun _ _ => .tup0)) (fun v _ => hU v _ _ _ _ _ _ _ _ rfl rfl rfl rfl rfl rfl rfl rfl) fun _ _ => ?_
                      refine wo_nil ?_
                      refine wr_inBlock ?_
                      refine wr_is [(0, (.str src)), (2, (.ptr (ix ids 0) g 0 0)), (3, (.ptr (ix ids 1) g1 0 0)), (4, (.ptr (ix ids 2) g2 0 0)), (5, (.ptr (ix ids 3) g3 0 0)), (6, (.ptr (ix ids 4) g4 0 0))] (.cons rfl (.cons rfl (.cons rfl (.cons rfl (.cons rfl (.cons rfl .nil)))))) ?_
                      refine wb_loop ?_
                      refine hW (fAt, l) _ _ ?_
                      exact ⟨v, g5, vH, rfl, rfl⟩
                    · exact of_bad
        · refine wr_exit rfl ?_
          refine wx_loop ?_
          refine wr_drop [(some (.rows g 1 [[.emp]])), (some (.rows g1 1 [[(.int .i64 0)]])), (some (.rows g2 1 [[(.int .i64 0)]])), none, (some (.rows g4 3 [[(.str src), (.int .i64 fAt), v]])), (ownO v g5 4 (List.map rToken l))] hI rfl (.keep (.keep (.keep (.drop (.keep (.keep .nil)))))) ?_
          refine wr_is [(2, (.ptr (ix ids 0) g 0 0)), (3, (.ptr (ix ids 1) g1 0 0)), (4, (.ptr (ix ids 2) g2 0 0)), (6, (.ptr (ix ids 4) g4 0 0))] (.cons rfl (.cons rfl (.cons rfl (.cons rfl .nil)))) ?_
          refine hJ (fAt, l) _ _ ?_
          exact ⟨v, g5, vH, rfl, rfl⟩

theorem cp_strings_Join (l : List Str) (sep : Str) : CP Tryd.prog 38 [.sl 1 (l.map rS), .str sep] (strings_Join l sep) (fun x => AV.str x) :=
  cp_lib (.mk Tryd.func38 rfl (by decide)) (fun p h => by unfold strings_Join at h; split at h <;> cases h) fun a ha B mu h w cargs hs hl => by
    obtain ⟨c1, c2, rfl, h1, h2⟩ := lrv_two hl
    obtain rfl := rv_str h2
    unfold strings_Join at ha
    split at ha
    · rename_i hn
      cases ha
      have key : l = [] ∨ ∃ bk o cap, c1 = .slice (some ⟨bk, o, none⟩) l.length cap ∧ bk < w.heap.size ∧ l.length ≤ LIM ∧ l.length ≤ cap ∧ ∀ j x, l[j]? = some x → w.cell? ⟨bk, o + j, none⟩ = some (.string ⟨x.toArray⟩) := rv_strs h1
      rcases key with rfl | ⟨bk, o, cap, rfl, hb, hlim, hcap, hc⟩
      · obtain ⟨a, cap, rfl⟩ := rv_sl0 h1
        refine (Go.Proofs.Tryd.strings_Join_none a cap ⟨sep.toArray⟩ w).mono ?_
        rintro e w' ⟨rfl, rfl⟩
        exact ⟨Go.RowKit.Below.refl _ _, _, rfl, .str _⟩
      · have em : (l.map fun x => (⟨x.toArray⟩ : ByteArray)).map (·.data.toList) = l := by simp [Function.comp_def]
        have := Go.Proofs.Tryd.strings_Join bk o cap (l.map fun x => ⟨x.toArray⟩) ⟨sep.toArray⟩ w (fun j x hx => by
          rw [List.getElem?_map] at hx
          cases hq : l[j]? with
          | none => rw [hq] at hx; cases hx
          | some y => rw [hq] at hx; cases hx; exact hc j y hq) hb (by rw [List.length_map]; exact hlim) (by simpa using hcap) (by rw [em]; exact hn)
        rw [em, List.length_map] at this
        refine this.mono ?_
        rintro e w' ⟨rfl, hbel⟩
        exact ⟨hbel, _, rfl, .str _⟩
    · cases ha

theorem cp_lex_Text (l : (List Token)) : CP Tryd.prog 16 [(.sl 4 (List.map rToken l))] (lex_Text l) (fun (p : (Str × Int)) => AV.tup [(.str p.1), (.int .i64 p.2)]) := by
  refine cp_intro (n := 39) 2 Tryd.func16 rfl (by decide) rfl rfl fun h0 ids hI => ?_
  refine wr_in (wr_mod (lex_Text.eq_1 _) ?_)
  refine wr_seq ?_
  refine wr_region ?_
  refine wo_val (.str []) rfl pv_assign ?_
  refine wo_val (.int .i64 0) rfl pv_assign ?_
  refine wo_nil ?_
  refine wr_seq ?_
  refine wr_region ?_
  refine wo_val (.sl 4 (List.map rToken l)) rfl pv_move ?_
  refine wo_val (.int .i64 (l.length : Int)) rfl (pv_len (len_sl ti23)) ?_
  refine of_need fun hl => ?_
  refine wo_make (y := ([] : Str)) (e := rS) (st := 1) (j := 0) hI rfl rfl rfl rfl ti40 ti9 rfl rfl hl.1 hl.2.1 hl.2.2 rfl rfl rfl rfl rfl fun v g vH => ?_
  refine wo_val v rfl pv_assign ?_
  refine wo_nil ?_
  refine wr_hp [(ownO v g 1 (List.map rS (List.replicate (Int.toNat (l.length : Int)) []))), none] rfl ?_
  refine wr_seq ?_
  refine wr_seq ?_
  refine wr_region ?_
  refine wo_val (.sl 4 (List.map rToken l)) rfl pv_move ?_
  refine wo_val (.int .i64 (l.length : Int)) rfl (pv_len (len_sl ti23)) ?_
  refine wo_val (.int .i64 0) rfl pv_move ?_
  refine wo_nil ?_
  refine wr_block ?_
  refine wr_is [(4, v), (10, (.sl 4 (List.map rToken l))), (11, (.int .i64 (l.length : Int))), (12, (.int .i64 0))] (.cons rfl (.cons rfl (.cons rfl (.cons rfl .nil)))) ?_
  refine wf_each' (P := Tryd.prog) l (fun j a => fun words => lex_Text_b1 j a words) ((alt (fun words => (strings_Join words [32]).bind fun src =>
  .ok (src, 0)) (fun r => .ok r)) : ((List Str) ⊕ (Str × Int)) → R (Str × Int))
    (fun j => fun words => fun (fr : Nat → AV) (h : AHeap) => ∃ (v1 : AV), ∃ (g1 : Nat), OwnV v1 (ix ids 0) g1 words.length ∧ fr = frA [(4, v1), (10, (.sl 4 (List.map rToken l))), (11, (.int .i64 (l.length : Int))), (12, (.int .i64 (j : Int)))] ∧ h = hp h0 ids [(ownO v1 g1 1 (List.map rS words)), none]) (List.replicate (Int.toNat (l.length : Int)) []) ?_ ?_ ?_
  · exact ⟨v, g, vH, rfl, rfl⟩
  · rintro j a ha W hW words fr h ⟨v1, g1, vH1, rfl, rfl⟩
    refine wr_mod (m' := lex_Text_b1 j a words) rfl (wr_mod (lex_Text_b1.eq_1 _ _ _) ?_)
    refine wr_seq ?_
    refine wr_region ?_
    refine wo_val (.bool (decide ((j : Int) < (l.length : Int)))) rfl (pv_bin rfl rfl rfl) ?_
    refine wo_nil ?_
    refine wr_seq ?_
    refine wr_lim (t := 10) (L := l) rfl fun hlim => ?_
    refine wr_condT rfl (Int.ofNat_lt.2 (lt_of_get ha)) ?_
    refine wr_skip ?_
    refine wr_seq ?_
    refine wr_block ?_
    refine wr_seq ?_
    refine wr_region ?_
    refine wo_val (.int .i64 (j : Int)) rfl pv_move ?_
    refine wo_val (.cp (rToken a) 0) rfl (pv_ixa (ixa_nat ti23 ti35 rfl ha)) ?_
    refine wo_val (.agg (rToken a)) rfl (pv_load (ld_cp ti35 rfl)) ?_
    refine wo_alloc (j := 1) hI rfl rfl rfl rfl ti35 rfl fun g2 => ?_
    refine wo_val (.int .i64 (j : Int)) rfl pv_assign ?_
    refine wo_store (st_ptr hI rfl rfl rfl rfl ti35 rfl rfl rfl rfl rfl) ?_
    refine wo_nil ?_
    refine wr_hp [(ownO v1 g1 1 (List.map rS words)), (some (.rows g2 4 [(rToken a)]))] rfl ?_
    refine wr_block ?_
    refine wr_seq ?_
    refine wr_region ?_
    refine wo_val (.agg (rToken a)) rfl (pv_load (ld_ptr hI rfl rfl rfl ti35 rfl)) ?_
    refine of_call [(.agg (rToken a))] rfl rfl rfl rfl ((cp_lex_valid a) _) (fun v _ => wu_pan Tryd.func16 hI) fun r _ => ?_
    refine wo_val (.bool (!r)) rfl (pv_un rfl) ?_
    refine wo_val (.bool (!r)) rfl pv_assign ?_
    refine wo_nil ?_
    refine wf_itebn rfl (fun hc => ?_) (fun hc => ?_)
    · refine wr_seq ?_
      refine wr_region ?_
      refine wo_val (.ptr (ix ids 1) g2 0 0) rfl (pv_fa (fa_ptr (c := 0) (off := 0) (i := 0) ti35 rfl ti3 rfl)) ?_
      refine wo_val (.int .i64 a.Kind) rfl (pv_load (ld_ptr hI rfl rfl rfl ti3 rfl)) ?_
      refine wo_val (.bool (a.Kind == 2)) rfl (pv_bin rfl rfl rfl) ?_
      refine wo_val (.bool (a.Kind == 2)) rfl pv_assign ?_
      refine wo_nil ?_
      refine wf_iteb rfl (fun hc1 => ?_) (fun hc1 => ?_)
      · refine wr_region ?_
        refine wo_val v1 rfl pv_move ?_
        refine wo_val (.int .i64 (j : Int)) rfl pv_move ?_
        refine wo_val (.ptr (ix ids 1) g2 0 2) rfl (pv_fa (fa_ptr (c := 0) (off := 2) (i := 2) ti35 rfl ti3 rfl)) ?_
        refine wo_val (.int .i64 a.N) rfl (pv_load (ld_ptr hI rfl rfl rfl ti3 rfl)) ?_
        refine of_call [(.int .i64 a.N)] rfl rfl rfl rfl ((cp_strconv_Itoa a.N) _) (fun v _ => wu_pan Tryd.func16 hI) fun r1 _ => ?_
        refine of_idx fun a1 hz hx1 => ?_
        refine wo_val (.ptr (ix ids 0) g1 (j : Int).toNat 0) rfl (pv_ixa (ixa_own hI rfl vH1 rfl ti40 ti9 rfl hz hx1)) ?_
        refine wo_store (st_own (y := r1) hI rfl rfl vH1 rfl hx1 ti9 rfl rfl rfl rfl rfl rfl) ?_
        have vH2 := OwnV.set (i := (j : Int).toNat) (y := r1) vH1
        have hx2 := List.getElem?_set_self (a := r1) (lt_of_get hx1)
        refine wo_nil ?_
        refine wr_hp [(ownO v1 g1 1 (List.map rS (words.set (j : Int).toNat r1))), (some (.rows g2 4 [(rToken a)]))] rfl ?_
        refine wr_inBlock ?_
        refine wr_inBlock ?_
        refine wr_region ?_
        refine wo_val (.int .i64 (IntKind.wrap .i64 ((j : Int) + 1))) rfl (pv_bin rfl rfl rfl) ?_
        refine wo_val (.int .i64 (IntKind.wrap .i64 ((j : Int) + 1))) rfl pv_move ?_
        refine wo_nil ?_
        refine wr_drop [(ownO v1 g1 1 (List.map rS (words.set (j : Int).toNat r1))), none] hI rfl (.keep (.drop .nil)) ?_
        refine wr_is [(4, v1), (10, (.sl 4 (List.map rToken l))), (11, (.int .i64 (l.length : Int))), (12, (.int .i64 ((j + 1 : Nat) : Int)))] (.cons rfl (.cons rfl (.cons rfl (.cons (inc_ok (lt_of_get ha) hlim) .nil)))) ?_
        refine wb_each ?_
        refine hW (words.set (j : Int).toNat r1) _ _ ?_
        exact ⟨v1, g1, vH2, rfl, rfl⟩
      · refine wr_region ?_
        refine wo_val v1 rfl pv_move ?_
        refine wo_val (.int .i64 (j : Int)) rfl pv_move ?_
        refine wo_val (.ptr (ix ids 1) g2 0 1) rfl (pv_fa (fa_ptr (c := 0) (off := 1) (i := 1) ti35 rfl ti9 rfl)) ?_
        refine wo_val (.str a.Text) rfl (pv_load (ld_ptr hI rfl rfl rfl ti9 rfl)) ?_
        refine of_idx fun a2 hz1 hx3 => ?_
        refine wo_val (.ptr (ix ids 0) g1 (j : Int).toNat 0) rfl (pv_ixa (ixa_own hI rfl vH1 rfl ti40 ti9 rfl hz1 hx3)) ?_
        refine wo_store (st_own (y := a.Text) hI rfl rfl vH1 rfl hx3 ti9 rfl rfl rfl rfl rfl rfl) ?_
        have vH3 := OwnV.set (i := (j : Int).toNat) (y := a.Text) vH1
        have hx4 := List.getElem?_set_self (a := a.Text) (lt_of_get hx3)
        refine wo_nil ?_
        refine wr_hp [(ownO v1 g1 1 (List.map rS (words.set (j : Int).toNat a.Text))), (some (.rows g2 4 [(rToken a)]))] rfl ?_
        refine wr_inBlock ?_
        refine wr_inBlock ?_
        refine wr_region ?_
        refine wo_val (.int .i64 (IntKind.wrap .i64 ((j : Int) + 1))) rfl (pv_bin rfl rfl rfl) ?_
        refine wo_val (.int .i64 (IntKind.wrap .i64 ((j : Int) + 1))) rfl pv_move ?_
        refine wo_nil ?_
        refine wr_drop [(ownO v1 g1 1 (List.map rS (words.set (j : Int).toNat a.Text))), none] hI rfl (.keep (.drop .nil)) ?_
        refine wr_is [(4, v1), (10, (.sl 4 (List.map rToken l))), (11, (.int .i64 (l.length : Int))), (12, (.int .i64 ((j + 1 : Nat) : Int)))] (.cons rfl (.cons rfl (.cons rfl (.cons (inc_ok (lt_of_get ha) hlim) .nil)))) ?_
        refine wb_each ?_
        refine hW (words.set (j : Int).toNat a.Text) _ _ ?_
        exact ⟨v1, g1, vH3, rfl, rfl⟩
    · refine wr_seq ?_
      refine wr_region ?_
      refine wo_val (.str []) rfl pv_assign ?_
      refine wo_val (.int .i64 70) rfl pv_assign ?_
      refine wo_nil ?_
      refine wx_each ?_
      refine w_altr ?_
      exact wr_ret (a := ([], 70)) (vs := [(.str []), (.int .i64 70)]) Tryd.func16 hI rfl (.tupL (.cons (.same _) (.cons (.same _) .nil)))
  · rintro words fr h ⟨v1, g1, vH1, rfl, rfl⟩
    refine wr_mod (alt_inl _ _ _) ?_
    refine wr_seq ?_
    refine wr_region ?_
    refine wo_val (.bool (decide ((l.length : Int) < (l.length : Int)))) rfl (pv_bin rfl rfl rfl) ?_
    refine wo_nil ?_
    refine wr_seq ?_
    refine wr_condF rfl (Int.lt_irrefl _) ?_
    refine wr_exit rfl ?_
    refine wr_seq ?_
    refine wr_region ?_
    refine wo_val v1 rfl pv_move ?_
    refine of_call [v1, (.str [32])] rfl rfl rfl rfl (CP.lend (cp_strings_Join words [32]) (LF.lfz (.cons (own_fz vH1 (hI.at rfl rfl) rfl (fun x => ok_S x)) (.cons (.same _) .nil))) (fun _ _ => (.str _))) (fun v _ => wu_pan Tryd.func16 hI) fun src _ => ?_
    refine wo_val (.str src) rfl pv_assign ?_
    refine wo_val (.int .i64 0) rfl pv_assign ?_
    refine wo_nil ?_
    exact wr_ret (a := (src, 0)) (vs := [(.str src), (.int .i64 0)]) Tryd.func16 hI rfl (.tupL (.cons (.same _) (.cons (.same _) .nil)))

theorem cp_ref07_Same (a : (List Token)) (b : (List Token)) : CP Tryd.prog 19 [(.sl 4 (List.map rToken a)), (.sl 4 (List.map rToken b))] (ref07_Same a b) (fun (x : Bool) => (AV.bool x)) := by
  refine cp_intro (n := 54) 0 Tryd.func19 rfl (by decide) rfl rfl fun h0 ids hI => ?_
  refine wr_in (wr_mod (ref07_Same.eq_1 _ _) ?_)
  refine wr_seq ?_
  refine wr_region ?_
  refine wo_val (.bool false) rfl pv_assign ?_
  refine wo_nil ?_
  refine wr_seq ?_
  refine wr_seq ?_
  refine wr_region ?_
  refine wo_val (.sl 4 (List.map rToken a)) rfl pv_move ?_
  refine wo_val (.int .i64 (a.length : Int)) rfl (pv_len (len_sl ti23)) ?_
  refine wo_val (.sl 4 (List.map rToken b)) rfl pv_move ?_
  refine wo_val (.int .i64 (b.length : Int)) rfl (pv_len (len_sl ti23)) ?_
  refine wo_val (.bool ((a.length : Int) != (b.length : Int))) rfl (pv_bin rfl rfl rfl) ?_
  refine wo_nil ?_
  refine wf_iteb rfl (fun hc => ?_) (fun hc => ?_)
  · refine wr_seq ?_
    refine wr_region ?_
    refine wo_val (.bool false) rfl pv_assign ?_
    refine wo_nil ?_
    exact wr_ret (a := false) (vs := [(.bool false)]) Tryd.func19 hI rfl (.same _)
  · refine wr_skip ?_
    refine wr_seq ?_
    refine wr_seq ?_
    refine wr_region ?_
    refine wo_val (.int .i64 0) rfl pv_assign ?_
    refine wo_nil ?_
    refine wr_block ?_
    refine wr_is [(0, (.sl 4 (List.map rToken a))), (1, (.sl 4 (List.map rToken b))), (5, (.int .i64 0))] (.cons rfl (.cons rfl (.cons rfl .nil))) ?_
    refine wf_each' (P := Tryd.prog) a (fun j a1 => fun _ => ref07_Same_b1 b j a1) ((alt (fun _ => .ok true) (fun r => .ok r)) : (Unit ⊕ Bool) → R Bool)
      (fun j => fun _ => fun (fr : Nat → AV) (h : AHeap) => fr = frA [(0, (.sl 4 (List.map rToken a))), (1, (.sl 4 (List.map rToken b))), (5, (.int .i64 (j : Int)))] ∧ h = hp h0 ids []) () ?_ ?_ ?_
    · exact ⟨rfl, rfl⟩
    · rintro j a1 ha1 W hW _ fr h ⟨rfl, rfl⟩
      refine wr_mod (m' := ref07_Same_b1 b j a1) rfl (wr_mod (ref07_Same_b1.eq_1 _ _ _) ?_)
      refine wr_seq ?_
      refine wr_seq ?_
      refine wr_region ?_
      refine wo_val (.int .i64 (j : Int)) rfl pv_move ?_
      refine wo_val (.sl 4 (List.map rToken a)) rfl pv_move ?_
      refine wo_val (.int .i64 (a.length : Int)) rfl (pv_len (len_sl ti23)) ?_
      refine wo_val (.bool (decide ((j : Int) < (a.length : Int)))) rfl (pv_bin rfl rfl rfl) ?_
      refine wo_nil ?_
      refine wr_lim (t := 0) (L := a) rfl fun hlim => ?_
      refine wr_condT rfl (Int.ofNat_lt.2 (lt_of_get ha1)) ?_
      refine wr_skip ?_
      refine wr_seq ?_
      refine wr_block ?_
      refine wr_seq ?_
      refine wf_join (fun x => ref07_Same_j1 x) (fun x => fun (fr : Nat → AV) (h : AHeap) => fr = frA [(0, (.sl 4 (List.map rToken a))), (1, (.sl 4 (List.map rToken b))), (5, (.int .i64 (j : Int))), (53, (.bool x))] ∧ h = hp h0 ids []) ?_ fun hJ => ?_
      · rintro x fr h ⟨rfl, rfl⟩
        refine wr_mod (ref07_Same_j1.eq_1 _) ?_
        refine wf_iteb rfl (fun hc1 => ?_) (fun hc1 => ?_)
        · refine wr_seq ?_
          refine wr_region ?_
          refine wo_val (.bool false) rfl pv_assign ?_
          refine wo_nil ?_
          refine wx_each ?_
          refine w_altr ?_
          exact wr_ret (a := false) (vs := [(.bool false)]) Tryd.func19 hI rfl (.same _)
        · refine wr_skip ?_
          refine wr_inBlock ?_
          refine wr_region ?_
          refine wo_val (.int .i64 (j : Int)) rfl pv_move ?_
          refine wo_val (.int .i64 (IntKind.wrap .i64 ((j : Int) + 1))) rfl (pv_bin rfl rfl rfl) ?_
          refine wo_val (.int .i64 (IntKind.wrap .i64 ((j : Int) + 1))) rfl pv_assign ?_
          refine wo_nil ?_
          refine wr_is [(0, (.sl 4 (List.map rToken a))), (1, (.sl 4 (List.map rToken b))), (5, (.int .i64 ((j + 1 : Nat) : Int)))] (.cons rfl (.cons rfl (.cons (inc_ok (lt_of_get ha1) hlim) .nil))) ?_
          refine wb_each ?_
          refine hW () _ _ ?_
          exact ⟨rfl, rfl⟩
      · refine wr_draw hmix [[], [], [0, 1], [0, 1, 2], [0, 1, 2, 3], [], [], [5, 6], [5, 6, 7], [5, 6, 7, 8], [0, 1, 2, 3, 4, 5, 6, 7, 8, 9], [0, 1, 2, 3, 4, 5, 6, 7, 8, 9, 10], [0, 1, 2, 3, 4, 5, 6, 7, 8, 9, 10, 11], [0, 1, 2, 3, 4, 5, 6, 7, 8, 9, 10, 11], [0, 1, 2, 3, 4, 5, 6, 7, 8, 9, 10, 11, 12, 13], [0, 1, 2, 3, 4, 5, 6, 7, 8, 9, 10, 11, 12, 13, 14], [0, 1, 2, 3, 4, 5, 6, 7, 8, 9, 10, 11, 12, 13, 14, 15], [0, 1, 2, 3, 4, 5, 6, 7, 8, 9, 10, 11], [0, 1, 2, 3, 4, 5, 6, 7, 8, 9, 10, 11], [0, 1, 2, 3, 4, 5, 6, 7, 8, 9, 10, 11, 17, 18], [0, 1, 2, 3, 4, 5, 6, 7, 8, 9, 10, 11, 17, 18, 19], [0, 1, 2, 3, 4, 5, 6, 7, 8, 9, 10, 11, 17, 18, 19, 20], [0, 1, 2, 3, 4, 5, 6, 7, 8, 9, 10, 11, 12, 13, 14, 15, 16, 17, 18, 19, 20, 21], [0, 1, 2, 3, 4, 5, 6, 7, 8, 9, 10, 11, 12, 13, 14, 15, 16, 17, 18, 19, 20, 21, 22], [0, 1, 2, 3, 4, 5, 6, 7, 8, 9, 10, 11, 12, 13, 14, 15, 16, 17, 18, 19, 20, 21, 22, 23], [0, 1, 2, 3, 4, 5, 6, 7, 8, 9, 10, 11, 12, 13, 14, 15, 16, 17, 18, 19, 20, 21, 22, 23, 24], [0, 1, 2, 3, 4, 5, 6, 7, 8, 9, 10, 11, 12, 13, 14, 15, 16, 17, 18, 19, 20, 21, 22, 23, 24], [0, 1, 2, 3, 4, 5, 6, 7, 8, 9, 10, 11, 12, 13, 14, 15, 16, 17, 18, 19, 20, 21, 22, 23, 24, 25, 26], [0, 1, 2, 3, 4, 5, 6, 7, 8, 9, 10, 11, 12, 13, 14, 15, 16, 17, 18, 19, 20, 21, 22, 23, 24, 25, 26, 27], [0, 1, 2, 3, 4, 5, 6, 7, 8, 9, 10, 11, 12, 13, 14, 15, 16, 17, 18, 19, 20, 21, 22, 23, 24, 25, 26, 27, 28], [0, 1, 2, 3, 4, 5, 6, 7, 8, 9, 10, 11, 12, 13, 14, 15, 16, 17, 18, 19, 20, 21, 22, 23, 24], [0, 1, 2, 3, 4, 5, 6, 7, 8, 9, 10, 11, 12, 13, 14, 15, 16, 17, 18, 19, 20, 21, 22, 23, 24], [0, 1, 2, 3, 4, 5, 6, 7, 8, 9, 10, 11, 12, 13, 14, 15, 16, 17, 18, 19, 20, 21, 22, 23, 24, 30, 31], [0, 1, 2, 3, 4, 5, 6, 7, 8, 9, 10, 11, 12, 13, 14, 15, 16, 17, 18, 19, 20, 21, 22, 23, 24, 30, 31, 32], [0, 1, 2, 3, 4, 5, 6, 7, 8, 9, 10, 11, 12, 13, 14, 15, 16, 17, 18, 19, 20, 21, 22, 23, 24, 30, 31, 32, 33], [0, 1, 2, 3, 4, 5, 6, 7, 8, 9, 10, 11, 12, 13, 14, 15, 16, 17, 18, 19, 20, 21, 22, 23, 24, 25, 26, 27, 28, 29, 30, 31, 32, 33, 34], [0, 1, 2, 3, 4, 5, 6, 7, 8, 9, 10, 11, 12, 13, 14, 15, 16, 17, 18, 19, 20, 21, 22, 23, 24, 25, 26, 27, 28, 29, 30, 31, 32, 33, 34, 35]] [(false, 0), (false, 1), (false, 2), (false, 3), (false, 4), (false, 5), (false, 6), (false, 7), (false, 8), (false, 9), (false, 10), (false, 11), (false, 12), (false, 13), (false, 14), (false, 15), (false, 16), (false, 17), (false, 18), (false, 19), (false, 20), (false, 21), (false, 22), (false, 23), (false, 24), (false, 25), (false, 26), (false, 27), (false, 28), (false, 29), (false, 30), (false, 31), (false, 32), (false, 33), (false, 34), (false, 35), (false, 36)] (by kernel_rfl) ?_
        refine wp_val (.sl 4 (List.map rToken a)) rfl rfl pv_move ?_
        refine wp_val (.int .i64 (j : Int)) rfl rfl pv_move ?_
        refine wp_val (.cp (rToken a1) 0) rfl rfl (pv_ixa (ixa_nat ti23 ti35 rfl ha1)) ?_
        refine wp_val (.cp (rToken a1) 0) rfl rfl (pv_fa (fa_cp (c := 0) (off := 0) (i := 0) ti35 rfl ti3 rfl)) ?_
        refine wp_val (.int .i64 a1.Kind) rfl rfl (pv_load (ld_cp ti3 rfl)) ?_
        refine wp_val (.sl 4 (List.map rToken b)) rfl rfl pv_move ?_
        refine wp_val (.int .i64 (j : Int)) rfl rfl pv_move ?_
        refine op_idx fun a2 hz hx1 => ?_
        refine wp_val (.cp (rToken a2) 0) rfl rfl (pv_ixa (ixa_sl ti23 ti35 rfl hz hx1)) ?_
        refine wp_val (.cp (rToken a2) 0) rfl rfl (pv_fa (fa_cp (c := 0) (off := 0) (i := 0) ti35 rfl ti3 rfl)) ?_
        refine wp_val (.int .i64 a2.Kind) rfl rfl (pv_load (ld_cp ti3 rfl)) ?_
        refine wp_val (.bool (a1.Kind != a2.Kind)) rfl rfl (pv_bin rfl rfl rfl) ?_
        refine wp_val (.bool (a1.Kind != a2.Kind)) rfl rfl pv_move ?_
        refine op_iteb (fun hb => ?_) (fun hb => ?_)
        · refine wp_not (tj := 28) (b := true) rfl rfl (congrArg AV.bool hb) rfl rfl ?_
          refine wp_not (tj := 28) (b := true) rfl rfl (congrArg AV.bool hb) rfl rfl ?_
          refine wp_not (tj := 28) (b := true) rfl rfl (congrArg AV.bool hb) rfl rfl ?_
          refine wp_not (tj := 28) (b := true) rfl rfl (congrArg AV.bool hb) rfl rfl ?_
          refine wp_not (tj := 28) (b := true) rfl rfl (congrArg AV.bool hb) rfl rfl ?_
          refine wp_not (tj := 28) (b := true) rfl rfl (congrArg AV.bool hb) rfl rfl ?_
          refine wp_not (tj := 28) (b := true) rfl rfl (congrArg AV.bool hb) rfl rfl ?_
          refine wp_not (tj := 28) (b := true) rfl rfl (congrArg AV.bool hb) rfl rfl ?_
          refine wp_not (tj := 28) (b := true) rfl rfl (congrArg AV.bool hb) rfl rfl ?_
          refine wp_not (tj := 28) (b := true) rfl rfl (congrArg AV.bool hb) rfl rfl ?_
          refine wp_not (tj := 28) (b := true) rfl rfl (congrArg AV.bool hb) rfl rfl ?_
          refine wp_val (.bool true) rfl rfl (pv_pick (t := true) (congrArg AV.bool hb) rfl) ?_
          refine wp_val (.bool true) rfl rfl pv_move ?_
          refine wp_not (tj := 41) (b := true) rfl rfl rfl rfl rfl ?_
          refine wp_not (tj := 41) (b := true) rfl rfl rfl rfl rfl ?_
          refine wp_not (tj := 41) (b := true) rfl rfl rfl rfl rfl ?_
          refine wp_not (tj := 41) (b := true) rfl rfl rfl rfl rfl ?_
          refine wp_not (tj := 41) (b := true) rfl rfl rfl rfl rfl ?_
          refine wp_not (tj := 41) (b := true) rfl rfl rfl rfl rfl ?_
          refine wp_not (tj := 41) (b := true) rfl rfl rfl rfl rfl ?_
          refine wp_not (tj := 41) (b := true) rfl rfl rfl rfl rfl ?_
          refine wp_not (tj := 41) (b := true) rfl rfl rfl rfl rfl ?_
          refine wp_not (tj := 41) (b := true) rfl rfl rfl rfl rfl ?_
          refine wp_not (tj := 41) (b := true) rfl rfl rfl rfl rfl ?_
          refine wp_val (.bool true) rfl rfl (pv_pick (t := true) rfl rfl) ?_
          refine wp_nil ?_
          refine wr_is [(0, (.sl 4 (List.map rToken a))), (1, (.sl 4 (List.map rToken b))), (5, (.int .i64 (j : Int))), (53, (.bool true))] (.cons rfl (.cons rfl (.cons rfl (.cons rfl .nil)))) ?_
          refine hJ true _ _ ?_
          exact ⟨rfl, rfl⟩
        · refine wp_valg (tj := 28) (.sl 4 (List.map rToken a)) rfl rfl (congrArg AV.bool hb) rfl pv_move ?_
          refine wp_valg (tj := 28) (.int .i64 (j : Int)) rfl rfl (congrArg AV.bool hb) rfl pv_move ?_
          refine wp_valg (tj := 28) (.cp (rToken a1) 0) rfl rfl (congrArg AV.bool hb) rfl (pv_ixa (ixa_nat ti23 ti35 rfl ha1)) ?_
          refine wp_valg (tj := 28) (.cp (rToken a1) 1) rfl rfl (congrArg AV.bool hb) rfl (pv_fa (fa_cp (c := 0) (off := 1) (i := 1) ti35 rfl ti9 rfl)) ?_
          refine wp_valg (tj := 28) (.str a1.Text) rfl rfl (congrArg AV.bool hb) rfl (pv_load (ld_cp ti9 rfl)) ?_
          refine wp_valg (tj := 28) (.sl 4 (List.map rToken b)) rfl rfl (congrArg AV.bool hb) rfl pv_move ?_
          refine wp_valg (tj := 28) (.int .i64 (j : Int)) rfl rfl (congrArg AV.bool hb) rfl pv_move ?_
          refine wp_valg (tj := 28) (.cp (rToken a2) 0) rfl rfl (congrArg AV.bool hb) rfl (pv_ixa (ixa_sl ti23 ti35 rfl hz hx1)) ?_
          refine wp_valg (tj := 28) (.cp (rToken a2) 1) rfl rfl (congrArg AV.bool hb) rfl (pv_fa (fa_cp (c := 0) (off := 1) (i := 1) ti35 rfl ti9 rfl)) ?_
          refine wp_valg (tj := 28) (.str a2.Text) rfl rfl (congrArg AV.bool hb) rfl (pv_load (ld_cp ti9 rfl)) ?_
          refine wp_valg (tj := 28) (.bool (!(a1.Text == a2.Text))) rfl rfl (congrArg AV.bool hb) rfl (pv_bin rfl rfl rfl) ?_
          refine wp_val (.bool (!(a1.Text == a2.Text))) rfl rfl (pv_pick (t := false) (congrArg AV.bool hb) rfl) ?_
          refine wp_val (.bool (!(a1.Text == a2.Text))) rfl rfl pv_move ?_
          refine op_iteb (fun hb1 => ?_) (fun hb1 => ?_)
          · refine wp_not (tj := 41) (b := true) rfl rfl (congrArg AV.bool hb1) rfl rfl ?_
            refine wp_not (tj := 41) (b := true) rfl rfl (congrArg AV.bool hb1) rfl rfl ?_
            refine wp_not (tj := 41) (b := true) rfl rfl (congrArg AV.bool hb1) rfl rfl ?_
            refine wp_not (tj := 41) (b := true) rfl rfl (congrArg AV.bool hb1) rfl rfl ?_
            refine wp_not (tj := 41) (b := true) rfl rfl (congrArg AV.bool hb1) rfl rfl ?_
            refine wp_not (tj := 41) (b := true) rfl rfl (congrArg AV.bool hb1) rfl rfl ?_
            refine wp_not (tj := 41) (b := true) rfl rfl (congrArg AV.bool hb1) rfl rfl ?_
            refine wp_not (tj := 41) (b := true) rfl rfl (congrArg AV.bool hb1) rfl rfl ?_
            refine wp_not (tj := 41) (b := true) rfl rfl (congrArg AV.bool hb1) rfl rfl ?_
            refine wp_not (tj := 41) (b := true) rfl rfl (congrArg AV.bool hb1) rfl rfl ?_
            refine wp_not (tj := 41) (b := true) rfl rfl (congrArg AV.bool hb1) rfl rfl ?_
            refine wp_val (.bool true) rfl rfl (pv_pick (t := true) (congrArg AV.bool hb1) rfl) ?_
            refine wp_nil ?_
            refine wr_is [(0, (.sl 4 (List.map rToken a))), (1, (.sl 4 (List.map rToken b))), (5, (.int .i64 (j : Int))), (53, (.bool true))] (.cons rfl (.cons rfl (.cons rfl (.cons rfl .nil)))) ?_
            refine hJ true _ _ ?_
            exact ⟨rfl, rfl⟩
          · refine wp_valg (tj := 41) (.sl 4 (List.map rToken a)) rfl rfl (congrArg AV.bool hb1) rfl pv_move ?_
            refine wp_valg (tj := 41) (.int .i64 (j : Int)) rfl rfl (congrArg AV.bool hb1) rfl pv_move ?_
            refine wp_valg (tj := 41) (.cp (rToken a1) 0) rfl rfl (congrArg AV.bool hb1) rfl (pv_ixa (ixa_nat ti23 ti35 rfl ha1)) ?_
            refine wp_valg (tj := 41) (.cp (rToken a1) 2) rfl rfl (congrArg AV.bool hb1) rfl (pv_fa (fa_cp (c := 0) (off := 2) (i := 2) ti35 rfl ti3 rfl)) ?_
            refine wp_valg (tj := 41) (.int .i64 a1.N) rfl rfl (congrArg AV.bool hb1) rfl (pv_load (ld_cp ti3 rfl)) ?_
            refine wp_valg (tj := 41) (.sl 4 (List.map rToken b)) rfl rfl (congrArg AV.bool hb1) rfl pv_move ?_
            refine wp_valg (tj := 41) (.int .i64 (j : Int)) rfl rfl (congrArg AV.bool hb1) rfl pv_move ?_
            refine wp_valg (tj := 41) (.cp (rToken a2) 0) rfl rfl (congrArg AV.bool hb1) rfl (pv_ixa (ixa_sl ti23 ti35 rfl hz hx1)) ?_
            refine wp_valg (tj := 41) (.cp (rToken a2) 2) rfl rfl (congrArg AV.bool hb1) rfl (pv_fa (fa_cp (c := 0) (off := 2) (i := 2) ti35 rfl ti3 rfl)) ?_
            refine wp_valg (tj := 41) (.int .i64 a2.N) rfl rfl (congrArg AV.bool hb1) rfl (pv_load (ld_cp ti3 rfl)) ?_
            refine wp_valg (tj := 41) (.bool (a1.N != a2.N)) rfl rfl (congrArg AV.bool hb1) rfl (pv_bin rfl rfl rfl) ?_
            refine wp_val (.bool (a1.N != a2.N)) rfl rfl (pv_pick (t := false) (congrArg AV.bool hb1) rfl) ?_
            refine wp_nil ?_
            refine wr_is [(0, (.sl 4 (List.map rToken a))), (1, (.sl 4 (List.map rToken b))), (5, (.int .i64 (j : Int))), (53, (.bool (a1.N != a2.N)))] (.cons rfl (.cons rfl (.cons rfl (.cons rfl .nil)))) ?_
            refine hJ (a1.N != a2.N) _ _ ?_
            exact ⟨rfl, rfl⟩
    · rintro _ fr h ⟨rfl, rfl⟩
      refine wr_mod (alt_inl _ _ _) ?_
      refine wr_seq ?_
      refine wr_seq ?_
      refine wr_region ?_
      refine wo_val (.int .i64 (a.length : Int)) rfl pv_move ?_
      refine wo_val (.sl 4 (List.map rToken a)) rfl pv_move ?_
      refine wo_val (.int .i64 (a.length : Int)) rfl (pv_len (len_sl ti23)) ?_
      refine wo_val (.bool (decide ((a.length : Int) < (a.length : Int)))) rfl (pv_bin rfl rfl rfl) ?_
      refine wo_nil ?_
      refine wr_condF rfl (Int.lt_irrefl _) ?_
      refine wr_exit rfl ?_
      refine wr_seq ?_
      refine wr_region ?_
      refine wo_val (.bool true) rfl pv_assign ?_
      refine wo_nil ?_
      exact wr_ret (a := true) (vs := [(.bool true)]) Tryd.func19 hI rfl (.same _)

theorem cp_ref07_Equal (a : (List Token)) (b : (List Token)) : CP Tryd.prog 14 [(.sl 4 (List.map rToken a)), (.sl 4 (List.map rToken b))] (ref07_Equal a b) (fun (x : Bool) => (AV.bool x)) := by
  refine cp_intro (n := 27) 0 Tryd.func14 rfl (by decide) rfl rfl fun h0 ids hI => ?_
  refine wr_in (wr_mod (ref07_Equal.eq_1 _ _) ?_)
  refine wr_seq ?_
  refine wr_region ?_
  refine wo_val (.bool false) rfl pv_assign ?_
  refine wo_nil ?_
  refine wr_seq ?_
  refine wr_seq ?_
  refine wr_region ?_
  refine wo_val (.sl 4 (List.map rToken a)) rfl pv_move ?_
  refine wo_val (.sl 4 (List.map rToken b)) rfl pv_move ?_
  refine of_call [(.sl 4 (List.map rToken a)), (.sl 4 (List.map rToken b))] rfl rfl rfl rfl ((cp_ref07_Same a b) _) (fun v _ => wu_pan Tryd.func14 hI) fun r _ => ?_
  refine wo_val (.bool (!r)) rfl (pv_un rfl) ?_
  refine wo_nil ?_
  refine wf_itebn rfl (fun hc => ?_) (fun hc => ?_)
  · refine wr_skip ?_
    refine wr_seq ?_
    refine wr_seq ?_
    refine wr_region ?_
    refine wo_val (.int .i64 0) rfl pv_assign ?_
    refine wo_nil ?_
    refine wr_block ?_
    refine wr_is [(0, (.sl 4 (List.map rToken a))), (1, (.sl 4 (List.map rToken b))), (5, (.int .i64 0))] (.cons rfl (.cons rfl (.cons rfl .nil))) ?_
    refine wf_each' (P := Tryd.prog) a (fun j a1 => fun _ => ref07_Equal_b1 b j a1) ((alt (fun _ => .ok true) (fun r => .ok r)) : (Unit ⊕ Bool) → R Bool)
      (fun j => fun _ => fun (fr : Nat → AV) (h : AHeap) => fr = frA [(0, (.sl 4 (List.map rToken a))), (1, (.sl 4 (List.map rToken b))), (5, (.int .i64 (j : Int)))] ∧ h = hp h0 ids []) () ?_ ?_ ?_
    · exact ⟨rfl, rfl⟩
    · rintro j a1 ha1 W hW _ fr h ⟨rfl, rfl⟩
      refine wr_mod (m' := ref07_Equal_b1 b j a1) rfl (wr_mod (ref07_Equal_b1.eq_1 _ _ _) ?_)
      refine wr_seq ?_
      refine wr_seq ?_
      refine wr_region ?_
      refine wo_val (.int .i64 (j : Int)) rfl pv_move ?_
      refine wo_val (.sl 4 (List.map rToken a)) rfl pv_move ?_
      refine wo_val (.int .i64 (a.length : Int)) rfl (pv_len (len_sl ti23)) ?_
      refine wo_val (.bool (decide ((j : Int) < (a.length : Int)))) rfl (pv_bin rfl rfl rfl) ?_
      refine wo_nil ?_
      refine wr_lim (t := 0) (L := a) rfl fun hlim => ?_
      refine wr_condT rfl (Int.ofNat_lt.2 (lt_of_get ha1)) ?_
      refine wr_skip ?_
      refine wr_seq ?_
      refine wr_block ?_
      refine wr_seq ?_
      refine wr_draw hmix [[], [], [0, 1], [0, 1, 2], [0, 1, 2, 3], [], [], [5, 6], [5, 6, 7], [5, 6, 7, 8], [0, 1, 2, 3, 4, 5, 6, 7, 8, 9]] [(false, 0), (false, 1), (false, 2), (false, 3), (false, 4), (false, 5), (false, 6), (false, 7), (false, 8), (false, 9), (false, 10)] (by kernel_rfl) ?_
      refine wp_val (.sl 4 (List.map rToken a)) rfl rfl pv_move ?_
      refine wp_val (.int .i64 (j : Int)) rfl rfl pv_move ?_
      refine wp_val (.cp (rToken a1) 0) rfl rfl (pv_ixa (ixa_nat ti23 ti35 rfl ha1)) ?_
      refine wp_val (.cp (rToken a1) 3) rfl rfl (pv_fa (fa_cp (c := 0) (off := 3) (i := 3) ti35 rfl ti3 rfl)) ?_
      refine wp_val (.int .i64 a1.At) rfl rfl (pv_load (ld_cp ti3 rfl)) ?_
      refine wp_val (.sl 4 (List.map rToken b)) rfl rfl pv_move ?_
      refine wp_val (.int .i64 (j : Int)) rfl rfl pv_move ?_
      refine op_idx fun a2 hz hx1 => ?_
      refine wp_val (.cp (rToken a2) 0) rfl rfl (pv_ixa (ixa_sl ti23 ti35 rfl hz hx1)) ?_
      refine wp_val (.cp (rToken a2) 3) rfl rfl (pv_fa (fa_cp (c := 0) (off := 3) (i := 3) ti35 rfl ti3 rfl)) ?_
      refine wp_val (.int .i64 a2.At) rfl rfl (pv_load (ld_cp ti3 rfl)) ?_
      refine wp_val (.bool (a1.At != a2.At)) rfl rfl (pv_bin rfl rfl rfl) ?_
      refine wp_nil ?_
      refine wf_iteb rfl (fun hc1 => ?_) (fun hc1 => ?_)
      · refine wr_seq ?_
        refine wr_region ?_
        refine wo_val (.bool false) rfl pv_assign ?_
        refine wo_nil ?_
        refine wx_each ?_
        refine w_altr ?_
        exact wr_ret (a := false) (vs := [(.bool false)]) Tryd.func14 hI rfl (.same _)
      · refine wr_skip ?_
        refine wr_inBlock ?_
        refine wr_region ?_
        refine wo_val (.int .i64 (j : Int)) rfl pv_move ?_
        refine wo_val (.int .i64 (IntKind.wrap .i64 ((j : Int) + 1))) rfl (pv_bin rfl rfl rfl) ?_
        refine wo_val (.int .i64 (IntKind.wrap .i64 ((j : Int) + 1))) rfl pv_assign ?_
        refine wo_nil ?_
        refine wr_is [(0, (.sl 4 (List.map rToken a))), (1, (.sl 4 (List.map rToken b))), (5, (.int .i64 ((j + 1 : Nat) : Int)))] (.cons rfl (.cons rfl (.cons (inc_ok (lt_of_get ha1) hlim) .nil))) ?_
        refine wb_each ?_
        refine hW () _ _ ?_
        exact ⟨rfl, rfl⟩
    · rintro _ fr h ⟨rfl, rfl⟩
      refine wr_mod (alt_inl _ _ _) ?_
      refine wr_seq ?_
      refine wr_seq ?_
      refine wr_region ?_
      refine wo_val (.int .i64 (a.length : Int)) rfl pv_move ?_
      refine wo_val (.sl 4 (List.map rToken a)) rfl pv_move ?_
      refine wo_val (.int .i64 (a.length : Int)) rfl (pv_len (len_sl ti23)) ?_
      refine wo_val (.bool (decide ((a.length : Int) < (a.length : Int)))) rfl (pv_bin rfl rfl rfl) ?_
      refine wo_nil ?_
      refine wr_condF rfl (Int.lt_irrefl _) ?_
      refine wr_exit rfl ?_
      refine wr_seq ?_
      refine wr_region ?_
      refine wo_val (.bool true) rfl pv_assign ?_
      refine wo_nil ?_
      exact wr_ret (a := true) (vs := [(.bool true)]) Tryd.func14 hI rfl (.same _)
  · refine wr_seq ?_
    refine wr_region ?_
    refine wo_val (.bool false) rfl pv_assign ?_
    refine wo_nil ?_
    exact wr_ret (a := false) (vs := [(.bool false)]) Tryd.func14 hI rfl (.same _)

theorem cp_lex_Same_c1 (a : Token) (y : Token) : CP Tryd.prog 42 [(.agg (rToken a)), (.agg (rToken y))] (lex_Same_c1 a y) (fun (x : Bool) => (AV.bool x)) := by
  refine cp_intro (n := 24) 2 Tryd.func42 rfl (by decide) rfl rfl fun h0 ids hI => ?_
  refine wr_in (wr_mod (lex_Same_c1.eq_1 _ _) ?_)
  refine wr_seq ?_
  refine wr_region ?_
  refine wo_box (v := (.agg (rToken a))) (j := 0) hI rfl rfl rfl rfl rfl rfl rfl fun g => ?_
  refine wo_box (v := (.agg (rToken y))) (j := 1) hI rfl rfl rfl rfl rfl rfl rfl fun g1 => ?_
  refine wo_val (.bool false) rfl pv_assign ?_
  refine wo_nil ?_
  refine wr_hp [(some (.rows g 4 [(rToken a)])), (some (.rows g1 4 [(rToken y)]))] rfl ?_
  refine wr_seq ?_
  refine wr_region ?_
  refine wo_val (.ptr (ix ids 0) g 0 0) rfl (pv_fa (fa_ptr (c := 0) (off := 0) (i := 0) ti35 rfl ti3 rfl)) ?_
  refine wo_val (.int .i64 a.Kind) rfl (pv_load (ld_ptr hI rfl rfl rfl ti3 rfl)) ?_
  refine wo_val (.ptr (ix ids 1) g1 0 0) rfl (pv_fa (fa_ptr (c := 0) (off := 0) (i := 0) ti35 rfl ti3 rfl)) ?_
  refine wo_val (.int .i64 y.Kind) rfl (pv_load (ld_ptr hI rfl rfl rfl ti3 rfl)) ?_
  refine wo_val (.bool (a.Kind == y.Kind)) rfl (pv_bin rfl rfl rfl) ?_
  refine wo_val (.bool (a.Kind == y.Kind)) rfl pv_move ?_
  refine wo_meet 6 [(2, (.ptr (ix ids 0) g 0 0)), (3, (.ptr (ix ids 1) g1 0 0)), (16, (.bool ((a.Kind == y.Kind) && (a.Text == y.Text))))] ?_ fun hJ => wo_cases (a.Kind == y.Kind) (fun hb1 => ?_) (fun hb1 => ?_)
  · refine wo_val (.bool ((a.Kind == y.Kind) && (a.Text == y.Text))) rfl pv_move ?_
    refine wo_meet 6 [(23, (.bool (((a.Kind == y.Kind) && (a.Text == y.Text)) && (a.N == y.N))))] ?_ fun hJ1 => wo_cases ((a.Kind == y.Kind) && (a.Text == y.Text)) (fun hb3 => ?_) (fun hb3 => ?_)
    · refine wo_val (.bool (((a.Kind == y.Kind) && (a.Text == y.Text)) && (a.N == y.N))) rfl pv_assign ?_
      refine wo_nil ?_
      exact wr_ret (a := (((a.Kind == y.Kind) && (a.Text == y.Text)) && (a.N == y.N))) (vs := [(.bool (((a.Kind == y.Kind) && (a.Text == y.Text)) && (a.N == y.N)))]) Tryd.func42 hI rfl (.same _)
    · refine wo_valg (tj := 17) (.ptr (ix ids 0) g 0 2) rfl (congrArg AV.bool hb3) rfl (pv_fa (fa_ptr (c := 0) (off := 2) (i := 2) ti35 rfl ti3 rfl)) ?_
      refine wo_valg (tj := 17) (.int .i64 a.N) rfl (congrArg AV.bool hb3) rfl (pv_load (ld_ptr hI rfl rfl rfl ti3 rfl)) ?_
      refine wo_valg (tj := 17) (.ptr (ix ids 1) g1 0 2) rfl (congrArg AV.bool hb3) rfl (pv_fa (fa_ptr (c := 0) (off := 2) (i := 2) ti35 rfl ti3 rfl)) ?_
      refine wo_valg (tj := 17) (.int .i64 y.N) rfl (congrArg AV.bool hb3) rfl (pv_load (ld_ptr hI rfl rfl rfl ti3 rfl)) ?_
      refine wo_valg (tj := 17) (.bool (a.N == y.N)) rfl (congrArg AV.bool hb3) rfl (pv_bin rfl rfl rfl) ?_
      refine wo_val (.bool (a.N == y.N)) rfl (pv_pick (t := true) (congrArg AV.bool hb3) rfl) ?_
      exact wo_is [(23, (.bool (((a.Kind == y.Kind) && (a.Text == y.Text)) && (a.N == y.N))))] (.cons (and_t hb3) .nil) hJ1
    · refine wo_not (tj := 17) (b := false) rfl (congrArg AV.bool hb3) rfl rfl ?_
      refine wo_not (tj := 17) (b := false) rfl (congrArg AV.bool hb3) rfl rfl ?_
      refine wo_not (tj := 17) (b := false) rfl (congrArg AV.bool hb3) rfl rfl ?_
      refine wo_not (tj := 17) (b := false) rfl (congrArg AV.bool hb3) rfl rfl ?_
      refine wo_not (tj := 17) (b := false) rfl (congrArg AV.bool hb3) rfl rfl ?_
      refine wo_val (.bool false) rfl (pv_pick (t := false) (congrArg AV.bool hb3) rfl) ?_
      exact wo_is [(23, (.bool (((a.Kind == y.Kind) && (a.Text == y.Text)) && (a.N == y.N))))] (.cons (and_f hb3) .nil) hJ1
  · refine wo_valg (tj := 10) (.ptr (ix ids 0) g 0 1) rfl (congrArg AV.bool hb1) rfl (pv_fa (fa_ptr (c := 0) (off := 1) (i := 1) ti35 rfl ti9 rfl)) ?_
    refine wo_valg (tj := 10) (.str a.Text) rfl (congrArg AV.bool hb1) rfl (pv_load (ld_ptr hI rfl rfl rfl ti9 rfl)) ?_
    refine wo_valg (tj := 10) (.ptr (ix ids 1) g1 0 1) rfl (congrArg AV.bool hb1) rfl (pv_fa (fa_ptr (c := 0) (off := 1) (i := 1) ti35 rfl ti9 rfl)) ?_
    refine wo_valg (tj := 10) (.str y.Text) rfl (congrArg AV.bool hb1) rfl (pv_load (ld_ptr hI rfl rfl rfl ti9 rfl)) ?_
    refine wo_valg (tj := 10) (.bool (a.Text == y.Text)) rfl (congrArg AV.bool hb1) rfl (pv_bin rfl rfl rfl) ?_
    refine wo_val (.bool (a.Text == y.Text)) rfl (pv_pick (t := true) (congrArg AV.bool hb1) rfl) ?_
    exact wo_is [(2, (.ptr (ix ids 0) g 0 0)), (3, (.ptr (ix ids 1) g1 0 0)), (16, (.bool ((a.Kind == y.Kind) && (a.Text == y.Text))))] (.cons rfl (.cons rfl (.cons (and_t hb1) .nil))) hJ
  · refine wo_not (tj := 10) (b := false) rfl (congrArg AV.bool hb1) rfl rfl ?_
    refine wo_not (tj := 10) (b := false) rfl (congrArg AV.bool hb1) rfl rfl ?_
    refine wo_not (tj := 10) (b := false) rfl (congrArg AV.bool hb1) rfl rfl ?_
    refine wo_not (tj := 10) (b := false) rfl (congrArg AV.bool hb1) rfl rfl ?_
    refine wo_not (tj := 10) (b := false) rfl (congrArg AV.bool hb1) rfl rfl ?_
    refine wo_val (.bool false) rfl (pv_pick (t := false) (congrArg AV.bool hb1) rfl) ?_
    exact wo_is [(2, (.ptr (ix ids 0) g 0 0)), (3, (.ptr (ix ids 1) g1 0 0)), (16, (.bool ((a.Kind == y.Kind) && (a.Text == y.Text))))] (.cons rfl (.cons rfl (.cons (and_f hb1) .nil))) hJ

theorem cp_slices_EqualFunc_api_Token_api_Token_api_Token_c1 (s1 : (List Token)) (s2 : (List Token)) : CP Tryd.prog 41 [(.sl 4 (List.map rToken s1)), (.sl 4 (List.map rToken s2)), (.func (.func 42) [] [])] (slices_EqualFunc_api_Token_api_Token_api_Token_c1 s1 s2) (fun (x : Bool) => (AV.bool x)) := by
  refine cp_intro (n := 32) 2 Tryd.func41 rfl (by decide) rfl rfl fun h0 ids hI => ?_
  refine wr_in (wr_mod (slices_EqualFunc_api_Token_api_Token_api_Token_c1.eq_1 _ _) ?_)
  refine wr_seq ?_
  refine wr_region ?_
  refine wo_val (.bool false) rfl pv_assign ?_
  refine wo_nil ?_
  refine wr_seq ?_
  refine wr_seq ?_
  refine wr_region ?_
  refine wo_val (.sl 4 (List.map rToken s1)) rfl pv_move ?_
  refine wo_val (.int .i64 (s1.length : Int)) rfl (pv_len (len_sl ti23)) ?_
  refine wo_val (.sl 4 (List.map rToken s2)) rfl pv_move ?_
  refine wo_val (.int .i64 (s2.length : Int)) rfl (pv_len (len_sl ti23)) ?_
  refine wo_val (.bool ((s1.length : Int) != (s2.length : Int))) rfl (pv_bin rfl rfl rfl) ?_
  refine wo_nil ?_
  refine wf_iteb rfl (fun hc => ?_) (fun hc => ?_)
  · refine wr_seq ?_
    refine wr_region ?_
    refine wo_val (.bool false) rfl pv_assign ?_
    refine wo_nil ?_
    exact wr_ret (a := false) (vs := [(.bool false)]) Tryd.func41 hI rfl (.same _)
  · refine wr_skip ?_
    refine wr_seq ?_
    refine wr_seq ?_
    refine wr_region ?_
    refine wo_val (.sl 4 (List.map rToken s1)) rfl pv_move ?_
    refine wo_val (.int .i64 (s1.length : Int)) rfl (pv_len (len_sl ti23)) ?_
    refine wo_val (.int .i64 0) rfl pv_move ?_
    refine wo_nil ?_
    refine wr_block ?_
    refine wr_is [(1, (.sl 4 (List.map rToken s2))), (2, (.func (.func 42) [] [])), (15, (.sl 4 (List.map rToken s1))), (16, (.int .i64 (s1.length : Int))), (17, (.int .i64 0))] (.cons rfl (.cons rfl (.cons rfl (.cons rfl (.cons rfl .nil))))) ?_
    refine wf_each' (P := Tryd.prog) s1 (fun j a => fun _ => slices_EqualFunc_api_Token_api_Token_api_Token_c1_b1 s2 j a) ((alt (fun _ => .ok true) (fun r => .ok r)) : (Unit ⊕ Bool) → R Bool)
      (fun j => fun _ => fun (fr : Nat → AV) (h : AHeap) => fr = frA [(1, (.sl 4 (List.map rToken s2))), (2, (.func (.func 42) [] [])), (15, (.sl 4 (List.map rToken s1))), (16, (.int .i64 (s1.length : Int))), (17, (.int .i64 (j : Int)))] ∧ h = hp h0 ids [none, none]) () ?_ ?_ ?_
    · exact ⟨rfl, rfl⟩
    · rintro j a ha W hW _ fr h ⟨rfl, rfl⟩
      refine wr_mod (m' := slices_EqualFunc_api_Token_api_Token_api_Token_c1_b1 s2 j a) rfl (wr_mod (slices_EqualFunc_api_Token_api_Token_api_Token_c1_b1.eq_1 _ _ _) ?_)
      refine wr_seq ?_
      refine wr_region ?_
      refine wo_val (.bool (decide ((j : Int) < (s1.length : Int)))) rfl (pv_bin rfl rfl rfl) ?_
      refine wo_nil ?_
      refine wr_seq ?_
      refine wr_lim (t := 15) (L := s1) rfl fun hlim => ?_
      refine wr_condT rfl (Int.ofNat_lt.2 (lt_of_get ha)) ?_
      refine wr_skip ?_
      refine wr_seq ?_
      refine wr_block ?_
      refine wr_seq ?_
      refine wr_region ?_
      refine wo_val (.int .i64 (j : Int)) rfl pv_move ?_
      refine wo_val (.cp (rToken a) 0) rfl (pv_ixa (ixa_nat ti23 ti35 rfl ha)) ?_
      refine wo_val (.agg (rToken a)) rfl (pv_load (ld_cp ti35 rfl)) ?_
      refine wo_alloc (j := 0) hI rfl rfl rfl rfl ti35 rfl fun g => ?_
      refine wo_val (.int .i64 (j : Int)) rfl pv_assign ?_
      refine wo_store (st_ptr hI rfl rfl rfl rfl ti35 rfl rfl rfl rfl rfl) ?_
      refine wo_nil ?_
      refine wr_hp [(some (.rows g 4 [(rToken a)])), none] rfl ?_
      refine wr_seq ?_
      refine wr_region ?_
      refine wo_val (.sl 4 (List.map rToken s2)) rfl pv_move ?_
      refine wo_val (.int .i64 (j : Int)) rfl pv_move ?_
      refine of_idx fun a1 hz hx1 => ?_
      refine wo_val (.cp (rToken a1) 0) rfl (pv_ixa (ixa_sl ti23 ti35 rfl hz hx1)) ?_
      refine wo_val (.agg (rToken a1)) rfl (pv_load (ld_cp ti35 rfl)) ?_
      refine wo_alloc (j := 1) hI rfl rfl rfl rfl ti35 rfl fun g1 => ?_
      refine wo_store (st_ptr hI rfl rfl rfl rfl ti35 rfl rfl rfl rfl rfl) ?_
      refine wo_nil ?_
      refine wr_hp [(some (.rows g 4 [(rToken a)])), (some (.rows g1 4 [(rToken a1)]))] rfl ?_
      refine wr_seq ?_
      refine wr_region ?_
      refine wo_val (.func (.func 42) [] []) rfl pv_move ?_
      refine wo_val (.agg (rToken a)) rfl (pv_load (ld_ptr hI rfl rfl rfl ti35 rfl)) ?_
      refine wo_val (.agg (rToken a1)) rfl (pv_load (ld_ptr hI rfl rfl rfl ti35 rfl)) ?_
      refine of_call [(.agg (rToken a)), (.agg (rToken a1))] rfl rfl rfl rfl ((cp_lex_Same_c1 a a1) _) (fun v _ => wu_pan Tryd.func41 hI) fun r _ => ?_
      refine wo_val (.bool (!r)) rfl (pv_un rfl) ?_
      refine wo_nil ?_
      refine wf_itebn rfl (fun hc1 => ?_) (fun hc1 => ?_)
      · refine wr_skip ?_
        refine wr_inBlock ?_
        refine wr_region ?_
        refine wo_val (.int .i64 (IntKind.wrap .i64 ((j : Int) + 1))) rfl (pv_bin rfl rfl rfl) ?_
        refine wo_val (.int .i64 (IntKind.wrap .i64 ((j : Int) + 1))) rfl pv_move ?_
        refine wo_nil ?_
        refine wr_drop [none, none] hI rfl (.drop (.drop .nil)) ?_
        refine wr_is [(1, (.sl 4 (List.map rToken s2))), (2, (.func (.func 42) [] [])), (15, (.sl 4 (List.map rToken s1))), (16, (.int .i64 (s1.length : Int))), (17, (.int .i64 ((j + 1 : Nat) : Int)))] (.cons rfl (.cons rfl (.cons rfl (.cons rfl (.cons (inc_ok (lt_of_get ha) hlim) .nil))))) ?_
        refine wb_each ?_
        refine hW () _ _ ?_
        exact ⟨rfl, rfl⟩
      · refine wr_seq ?_
        refine wr_region ?_
        refine wo_val (.bool false) rfl pv_assign ?_
        refine wo_nil ?_
        refine wx_each ?_
        refine w_altr ?_
        exact wr_ret (a := false) (vs := [(.bool false)]) Tryd.func41 hI rfl (.same _)
    · rintro _ fr h ⟨rfl, rfl⟩
      refine wr_mod (alt_inl _ _ _) ?_
      refine wr_seq ?_
      refine wr_region ?_
      refine wo_val (.bool (decide ((s1.length : Int) < (s1.length : Int)))) rfl (pv_bin rfl rfl rfl) ?_
      refine wo_nil ?_
      refine wr_seq ?_
      refine wr_condF rfl (Int.lt_irrefl _) ?_
      refine wr_exit rfl ?_
      refine wr_seq ?_
      refine wr_region ?_
      refine wo_val (.bool true) rfl pv_assign ?_
      refine wo_nil ?_
      exact wr_ret (a := true) (vs := [(.bool true)]) Tryd.func41 hI rfl (.same _)

theorem cp_lex_Same (a : (List Token)) (b : (List Token)) : CP Tryd.prog 18 [(.sl 4 (List.map rToken a)), (.sl 4 (List.map rToken b))] (lex_Same a b) (fun (x : Bool) => (AV.bool x)) := by
  refine cp_intro (n := 8) 0 Tryd.func18 rfl (by decide) rfl rfl fun h0 ids hI => ?_
  refine wr_in (wr_mod (lex_Same.eq_1 _ _) ?_)
  refine wr_seq ?_
  refine wr_region ?_
  refine wo_val (.bool false) rfl pv_assign ?_
  refine wo_nil ?_
  refine wr_seq ?_
  refine wr_region ?_
  refine wo_val (.sl 4 (List.map rToken a)) rfl pv_move ?_
  refine wo_val (.sl 4 (List.map rToken b)) rfl pv_move ?_
  refine of_call [(.sl 4 (List.map rToken a)), (.sl 4 (List.map rToken b)), (.func (.func 42) [] [])] rfl rfl rfl rfl ((cp_slices_EqualFunc_api_Token_api_Token_api_Token_c1 a b) _) (fun v _ => wu_pan Tryd.func18 hI) fun same _ => ?_
  refine wo_val (.bool same) rfl pv_assign ?_
  refine wo_nil ?_
  exact wr_ret (a := same) (vs := [(.bool same)]) Tryd.func18 hI rfl (.same _)

theorem cp_law07_sane : CP Tryd.prog 11 [] (law07_sane) (fun (x : Bool) => (AV.bool x)) := by
  refine cp_intro (n := 178) 0 Tryd.func11 rfl (by decide) rfl rfl fun h0 ids hI => ?_
  refine wr_in (wr_mod (law07_sane.eq_1) ?_)
  refine wr_seq ?_
  refine wr_region ?_
  refine wo_val (.bool false) rfl pv_assign ?_
  refine wo_nil ?_
  refine wr_seq ?_
  refine wr_region ?_
  refine of_call [(.str [101, 97, 114, 110, 32, 51, 48, 59])] rfl rfl rfl rfl ((cp_lex_Lex [101, 97, 114, 110, 32, 51, 48, 59]) _) (fun v _ => wu_pan Tryd.func11 hI) fun r _ => ?_
  refine wo_val (.tup [(.sl 4 (List.map rToken r.1)), (.int .i64 r.2.1), (.int .i64 r.2.2)]) rfl pv_move ?_
  refine wo_val (.sl 4 (List.map rToken r.1)) rfl (pv_ext rfl) ?_
  refine wo_val (.int .i64 r.2.1) rfl (pv_ext rfl) ?_
  refine wo_val (.int .i64 r.2.2) rfl (pv_ext rfl) ?_
  refine wo_val (.sl 4 (List.map rToken r.1)) rfl pv_assign ?_
  refine wo_val (.int .i64 r.2.1) rfl pv_assign ?_
  refine wo_val (.int .i64 r.2.2) rfl pv_assign ?_
  refine wo_nil ?_
  refine wr_seq ?_
  refine wr_region ?_
  refine wo_val (.agg [(.int .i64 1), (.str [101, 97, 114, 110]), (.int .i64 0), (.int .i64 0)]) rfl (pv_build (bd_st ti35 pl35 rfl)) ?_
  refine wo_val (.agg [(.int .i64 2), (.str []), (.int .i64 30), (.int .i64 5)]) rfl (pv_build (bd_st ti35 pl35 rfl)) ?_
  refine wo_val (.agg [(.int .i64 3), (.str [59]), (.int .i64 0), (.int .i64 7)]) rfl (pv_build (bd_st ti35 pl35 rfl)) ?_
  refine wo_bsC (e := rToken) (L := [({ Kind := 1, Text := [101, 97, 114, 110], N := 0, At := 0 } : Token), ({ Kind := 2, Text := [], N := 30, At := 5 } : Token), ({ Kind := 3, Text := [59], N := 0, At := 7 } : Token)]) (st := 4) (rows := [[(.int .i64 1), (.str [101, 97, 114, 110]), (.int .i64 0), (.int .i64 0)], [(.int .i64 2), (.str []), (.int .i64 30), (.int .i64 5)], [(.int .i64 3), (.str [59]), (.int .i64 0), (.int .i64 7)]]) rfl ti23 ti35 rfl rfl rfl rfl rfl (.cons (.cons (.same _) (.cons (.same _) (.cons (.same _) (.cons (.same _) .nil)))) (.cons (.cons (.same _) (.cons (.same _) (.cons (.same _) (.cons (.same _) .nil)))) (.cons (.cons (.same _) (.cons (.same _) (.cons (.same _) (.cons (.same _) .nil)))) .nil))) (fun x => ok_Token x) rfl rfl ?_
  refine wo_val (.sl 4 (List.map rToken [({ Kind := 1, Text := [101, 97, 114, 110], N := 0, At := 0 } : Token), ({ Kind := 2, Text := [], N := 30, At := 5 } : Token), ({ Kind := 3, Text := [59], N := 0, At := 7 } : Token)])) rfl pv_assign ?_
  refine wo_nil ?_
  refine wr_seq ?_
  refine wr_region ?_
  refine of_call [(.str [48, 48, 55])] rfl rfl rfl rfl ((cp_lex_Lex [48, 48, 55]) _) (fun v _ => wu_pan Tryd.func11 hI) fun r1 _ => ?_
  refine wo_val (.tup [(.sl 4 (List.map rToken r1.1)), (.int .i64 r1.2.1), (.int .i64 r1.2.2)]) rfl pv_move ?_
  refine wo_val (.sl 4 (List.map rToken r1.1)) rfl (pv_ext rfl) ?_
  refine wo_val (.int .i64 r1.2.1) rfl (pv_ext rfl) ?_
  refine wo_val (.int .i64 r1.2.2) rfl (pv_ext rfl) ?_
  refine wo_val (.sl 4 (List.map rToken r1.1)) rfl pv_assign ?_
  refine wo_val (.int .i64 r1.2.1) rfl pv_assign ?_
  refine wo_val (.int .i64 r1.2.2) rfl pv_assign ?_
  refine wo_nil ?_
  refine wr_seq ?_
  refine wr_region ?_
  refine of_call [(.str [49, 48, 57, 57, 53, 49, 49, 54, 50, 55, 55, 55, 54])] rfl rfl rfl rfl ((cp_lex_Lex [49, 48, 57, 57, 53, 49, 49, 54, 50, 55, 55, 55, 54]) _) (fun v _ => wu_pan Tryd.func11 hI) fun r2 _ => ?_
  refine wo_val (.tup [(.sl 4 (List.map rToken r2.1)), (.int .i64 r2.2.1), (.int .i64 r2.2.2)]) rfl pv_move ?_
  refine wo_val (.sl 4 (List.map rToken r2.1)) rfl (pv_ext rfl) ?_
  refine wo_val (.int .i64 r2.2.1) rfl (pv_ext rfl) ?_
  refine wo_val (.int .i64 r2.2.2) rfl (pv_ext rfl) ?_
  refine wo_val (.sl 4 (List.map rToken r2.1)) rfl pv_assign ?_
  refine wo_val (.int .i64 r2.2.1) rfl pv_assign ?_
  refine wo_val (.int .i64 r2.2.2) rfl pv_assign ?_
  refine wo_nil ?_
  refine wr_seq ?_
  refine wr_region ?_
  refine of_call [(.str [97, 32, 47, 47, 32, 98])] rfl rfl rfl rfl ((cp_lex_Lex [97, 32, 47, 47, 32, 98]) _) (fun v _ => wu_pan Tryd.func11 hI) fun r3 _ => ?_
  refine wo_val (.tup [(.sl 4 (List.map rToken r3.1)), (.int .i64 r3.2.1), (.int .i64 r3.2.2)]) rfl pv_move ?_
  refine wo_val (.sl 4 (List.map rToken r3.1)) rfl (pv_ext rfl) ?_
  refine wo_val (.int .i64 r3.2.1) rfl (pv_ext rfl) ?_
  refine wo_val (.int .i64 r3.2.2) rfl (pv_ext rfl) ?_
  refine wo_val (.sl 4 (List.map rToken r3.1)) rfl pv_assign ?_
  refine wo_val (.int .i64 r3.2.1) rfl pv_assign ?_
  refine wo_val (.int .i64 r3.2.2) rfl pv_assign ?_
  refine wo_nil ?_
  refine wr_seq ?_
  refine wr_region ?_
  refine of_call [(.str [97, 32, 36])] rfl rfl rfl rfl ((cp_lex_Lex [97, 32, 36]) _) (fun v _ => wu_pan Tryd.func11 hI) fun r4 _ => ?_
  refine wo_val (.tup [(.sl 4 (List.map rToken r4.1)), (.int .i64 r4.2.1), (.int .i64 r4.2.2)]) rfl pv_move ?_
  refine wo_val (.sl 4 (List.map rToken r4.1)) rfl (pv_ext rfl) ?_
  refine wo_val (.int .i64 r4.2.1) rfl (pv_ext rfl) ?_
  refine wo_val (.int .i64 r4.2.2) rfl (pv_ext rfl) ?_
  refine wo_val (.sl 4 (List.map rToken r4.1)) rfl pv_assign ?_
  refine wo_val (.int .i64 r4.2.1) rfl pv_assign ?_
  refine wo_val (.int .i64 r4.2.2) rfl pv_assign ?_
  refine wo_nil ?_
  refine wr_seq ?_
  refine wr_region ?_
  refine of_call [(.str [97, 61, 49])] rfl rfl rfl rfl ((cp_lex_Lex [97, 61, 49]) _) (fun v _ => wu_pan Tryd.func11 hI) fun r5 _ => ?_
  refine wo_val (.tup [(.sl 4 (List.map rToken r5.1)), (.int .i64 r5.2.1), (.int .i64 r5.2.2)]) rfl pv_move ?_
  refine wo_val (.sl 4 (List.map rToken r5.1)) rfl (pv_ext rfl) ?_
  refine wo_val (.int .i64 r5.2.1) rfl (pv_ext rfl) ?_
  refine wo_val (.int .i64 r5.2.2) rfl (pv_ext rfl) ?_
  refine wo_val (.sl 4 (List.map rToken r5.1)) rfl pv_assign ?_
  refine wo_val (.int .i64 r5.2.1) rfl pv_assign ?_
  refine wo_val (.int .i64 r5.2.2) rfl pv_assign ?_
  refine wo_nil ?_
  refine wr_seq ?_
  refine wr_region ?_
  refine wo_val (.sl 4 (List.map rToken r5.1)) rfl pv_move ?_
  refine of_call [(.sl 4 (List.map rToken r5.1))] rfl rfl rfl rfl ((cp_lex_Text r5.1) _) (fun v _ => wu_pan Tryd.func11 hI) fun r6 _ => ?_
  refine wo_val (.tup [(.str r6.1), (.int .i64 r6.2)]) rfl pv_move ?_
  refine wo_val (.str r6.1) rfl (pv_ext rfl) ?_
  refine wo_val (.int .i64 r6.2) rfl (pv_ext rfl) ?_
  refine wo_val (.str r6.1) rfl pv_assign ?_
  refine wo_val (.int .i64 r6.2) rfl pv_assign ?_
  refine wo_nil ?_
  refine wr_seq ?_
  refine wr_region ?_
  refine of_call [(.str [])] rfl rfl rfl rfl ((cp_lex_Lex []) _) (fun v _ => wu_pan Tryd.func11 hI) fun r7 _ => ?_
  refine wo_val (.tup [(.sl 4 (List.map rToken r7.1)), (.int .i64 r7.2.1), (.int .i64 r7.2.2)]) rfl pv_move ?_
  refine wo_val (.sl 4 (List.map rToken r7.1)) rfl (pv_ext rfl) ?_
  refine wo_val (.int .i64 r7.2.1) rfl (pv_ext rfl) ?_
  refine wo_val (.int .i64 r7.2.2) rfl (pv_ext rfl) ?_
  refine wo_val (.sl 4 (List.map rToken r7.1)) rfl pv_assign ?_
  refine wo_val (.int .i64 r7.2.1) rfl pv_assign ?_
  refine wo_val (.int .i64 r7.2.2) rfl pv_assign ?_
  refine wo_nil ?_
  refine wr_seq ?_
  refine wr_region ?_
  refine wo_val (.agg [(.int .i64 0), (.str []), (.int .i64 0), (.int .i64 0)]) rfl (pv_build (bd_st ti35 pl35 rfl)) ?_
  refine wo_bsC (e := rToken) (L := [({ Kind := 0, Text := [], N := 0, At := 0 } : Token)]) (st := 4) (rows := [[(.int .i64 0), (.str []), (.int .i64 0), (.int .i64 0)]]) rfl ti23 ti35 rfl rfl rfl rfl rfl (.cons (.cons (.same _) (.cons (.same _) (.cons (.same _) (.cons (.same _) .nil)))) .nil) (fun x => ok_Token x) rfl rfl ?_
  refine of_call [(.sl 4 (List.map rToken [({ Kind := 0, Text := [], N := 0, At := 0 } : Token)]))] rfl rfl rfl rfl ((cp_lex_Text [({ Kind := 0, Text := [], N := 0, At := 0 } : Token)]) _) (fun v _ => wu_pan Tryd.func11 hI) fun r8 _ => ?_
  refine wo_val (.tup [(.str r8.1), (.int .i64 r8.2)]) rfl pv_move ?_
  refine wo_val (.str r8.1) rfl (pv_ext rfl) ?_
  refine wo_val (.int .i64 r8.2) rfl (pv_ext rfl) ?_
  refine wo_val (.str r8.1) rfl pv_assign ?_
  refine wo_val (.int .i64 r8.2) rfl pv_assign ?_
  refine wo_nil ?_
  refine wr_seq ?_
  refine wr_seq ?_
  refine wr_region ?_
  refine wo_val (.int .i64 r.2.1) rfl pv_move ?_
  refine wo_val (.bool (r.2.1 != 0)) rfl (pv_bin rfl rfl rfl) ?_
  refine wo_val (.bool (r.2.1 != 0)) rfl pv_move ?_
  refine wo_meet 3 [(1, (.sl 4 (List.map rToken r.1))), (4, (.sl 4 (List.map rToken [({ Kind := 1, Text := [101, 97, 114, 110], N := 0, At := 0 } : Token), ({ Kind := 2, Text := [], N := 30, At := 5 } : Token), ({ Kind := 3, Text := [59], N := 0, At := 7 } : Token)]))), (6, (.int .i64 r1.2.1)), (7, (.int .i64 r1.2.2)), (8, (.sl 4 (List.map rToken r2.1))), (10, (.int .i64 r2.2.2)), (11, (.sl 4 (List.map rToken r3.1))), (13, (.int .i64 r3.2.2)), (15, (.int .i64 r4.2.1)), (16, (.int .i64 r4.2.2)), (17, (.sl 4 (List.map rToken r5.1))), (19, (.int .i64 r5.2.2)), (20, (.str r6.1)), (21, (.int .i64 r6.2)), (22, (.sl 4 (List.map rToken r7.1))), (24, (.int .i64 r7.2.2)), (26, (.int .i64 r8.2)), (82, (.bool ((r.2.1 != 0) || (r.2.2 != 0))))] ?_ fun hJ => wo_cases (r.2.1 != 0) (fun hb1 => ?_) (fun hb1 => ?_)
  · refine wo_val (.bool ((r.2.1 != 0) || (r.2.2 != 0))) rfl pv_move ?_
    refine wo_meet 3 [(1, (.sl 4 (List.map rToken r.1))), (4, (.sl 4 (List.map rToken [({ Kind := 1, Text := [101, 97, 114, 110], N := 0, At := 0 } : Token), ({ Kind := 2, Text := [], N := 30, At := 5 } : Token), ({ Kind := 3, Text := [59], N := 0, At := 7 } : Token)]))), (6, (.int .i64 r1.2.1)), (8, (.sl 4 (List.map rToken r2.1))), (10, (.int .i64 r2.2.2)), (11, (.sl 4 (List.map rToken r3.1))), (13, (.int .i64 r3.2.2)), (15, (.int .i64 r4.2.1)), (16, (.int .i64 r4.2.2)), (17, (.sl 4 (List.map rToken r5.1))), (19, (.int .i64 r5.2.2)), (20, (.str r6.1)), (21, (.int .i64 r6.2)), (22, (.sl 4 (List.map rToken r7.1))), (24, (.int .i64 r7.2.2)), (26, (.int .i64 r8.2)), (86, (.bool (((r.2.1 != 0) || (r.2.2 != 0)) || (r1.2.2 != 70))))] ?_ fun hJ1 => wo_cases ((r.2.1 != 0) || (r.2.2 != 0)) (fun hb3 => ?_) (fun hb3 => ?_)
    · refine wo_val (.bool (((r.2.1 != 0) || (r.2.2 != 0)) || (r1.2.2 != 70))) rfl pv_move ?_
      refine wo_meet 3 [(1, (.sl 4 (List.map rToken r.1))), (4, (.sl 4 (List.map rToken [({ Kind := 1, Text := [101, 97, 114, 110], N := 0, At := 0 } : Token), ({ Kind := 2, Text := [], N := 30, At := 5 } : Token), ({ Kind := 3, Text := [59], N := 0, At := 7 } : Token)]))), (8, (.sl 4 (List.map rToken r2.1))), (10, (.int .i64 r2.2.2)), (11, (.sl 4 (List.map rToken r3.1))), (13, (.int .i64 r3.2.2)), (15, (.int .i64 r4.2.1)), (16, (.int .i64 r4.2.2)), (17, (.sl 4 (List.map rToken r5.1))), (19, (.int .i64 r5.2.2)), (20, (.str r6.1)), (21, (.int .i64 r6.2)), (22, (.sl 4 (List.map rToken r7.1))), (24, (.int .i64 r7.2.2)), (26, (.int .i64 r8.2)), (90, (.bool ((((r.2.1 != 0) || (r.2.2 != 0)) || (r1.2.2 != 70)) || (r1.2.1 != 0))))] ?_ fun hJ2 => wo_cases (((r.2.1 != 0) || (r.2.2 != 0)) || (r1.2.2 != 70)) (fun hb5 => ?_) (fun hb5 => ?_)
      · refine wo_val (.bool ((((r.2.1 != 0) || (r.2.2 != 0)) || (r1.2.2 != 70)) || (r1.2.1 != 0))) rfl pv_move ?_
        refine wo_meet 3 [(1, (.sl 4 (List.map rToken r.1))), (4, (.sl 4 (List.map rToken [({ Kind := 1, Text := [101, 97, 114, 110], N := 0, At := 0 } : Token), ({ Kind := 2, Text := [], N := 30, At := 5 } : Token), ({ Kind := 3, Text := [59], N := 0, At := 7 } : Token)]))), (8, (.sl 4 (List.map rToken r2.1))), (11, (.sl 4 (List.map rToken r3.1))), (13, (.int .i64 r3.2.2)), (15, (.int .i64 r4.2.1)), (16, (.int .i64 r4.2.2)), (17, (.sl 4 (List.map rToken r5.1))), (19, (.int .i64 r5.2.2)), (20, (.str r6.1)), (21, (.int .i64 r6.2)), (22, (.sl 4 (List.map rToken r7.1))), (24, (.int .i64 r7.2.2)), (26, (.int .i64 r8.2)), (94, (.bool (((((r.2.1 != 0) || (r.2.2 != 0)) || (r1.2.2 != 70)) || (r1.2.1 != 0)) || (r2.2.2 != 0))))] ?_ fun hJ3 => wo_cases ((((r.2.1 != 0) || (r.2.2 != 0)) || (r1.2.2 != 70)) || (r1.2.1 != 0)) (fun hb7 => ?_) (fun hb7 => ?_)
        · refine wo_val (.bool (((((r.2.1 != 0) || (r.2.2 != 0)) || (r1.2.2 != 70)) || (r1.2.1 != 0)) || (r2.2.2 != 0))) rfl pv_move ?_
          refine wo_meet 3 [(1, (.sl 4 (List.map rToken r.1))), (4, (.sl 4 (List.map rToken [({ Kind := 1, Text := [101, 97, 114, 110], N := 0, At := 0 } : Token), ({ Kind := 2, Text := [], N := 30, At := 5 } : Token), ({ Kind := 3, Text := [59], N := 0, At := 7 } : Token)]))), (8, (.sl 4 (List.map rToken r2.1))), (11, (.sl 4 (List.map rToken r3.1))), (15, (.int .i64 r4.2.1)), (16, (.int .i64 r4.2.2)), (17, (.sl 4 (List.map rToken r5.1))), (19, (.int .i64 r5.2.2)), (20, (.str r6.1)), (21, (.int .i64 r6.2)), (22, (.sl 4 (List.map rToken r7.1))), (24, (.int .i64 r7.2.2)), (26, (.int .i64 r8.2)), (98, (.bool ((((((r.2.1 != 0) || (r.2.2 != 0)) || (r1.2.2 != 70)) || (r1.2.1 != 0)) || (r2.2.2 != 0)) || (r3.2.2 != 0))))] ?_ fun hJ4 => wo_cases (((((r.2.1 != 0) || (r.2.2 != 0)) || (r1.2.2 != 70)) || (r1.2.1 != 0)) || (r2.2.2 != 0)) (fun hb9 => ?_) (fun hb9 => ?_)
          · refine wo_val (.bool ((((((r.2.1 != 0) || (r.2.2 != 0)) || (r1.2.2 != 70)) || (r1.2.1 != 0)) || (r2.2.2 != 0)) || (r3.2.2 != 0))) rfl pv_move ?_
            refine wo_meet 3 [(1, (.sl 4 (List.map rToken r.1))), (4, (.sl 4 (List.map rToken [({ Kind := 1, Text := [101, 97, 114, 110], N := 0, At := 0 } : Token), ({ Kind := 2, Text := [], N := 30, At := 5 } : Token), ({ Kind := 3, Text := [59], N := 0, At := 7 } : Token)]))), (8, (.sl 4 (List.map rToken r2.1))), (11, (.sl 4 (List.map rToken r3.1))), (15, (.int .i64 r4.2.1)), (17, (.sl 4 (List.map rToken r5.1))), (19, (.int .i64 r5.2.2)), (20, (.str r6.1)), (21, (.int .i64 r6.2)), (22, (.sl 4 (List.map rToken r7.1))), (24, (.int .i64 r7.2.2)), (26, (.int .i64 r8.2)), (102, (.bool (((((((r.2.1 != 0) || (r.2.2 != 0)) || (r1.2.2 != 70)) || (r1.2.1 != 0)) || (r2.2.2 != 0)) || (r3.2.2 != 0)) || (r4.2.2 != 70))))] ?_ fun hJ5 => wo_cases ((((((r.2.1 != 0) || (r.2.2 != 0)) || (r1.2.2 != 70)) || (r1.2.1 != 0)) || (r2.2.2 != 0)) || (r3.2.2 != 0)) (fun hb11 => ?_) (fun hb11 => ?_)
            · refine wo_val (.bool (((((((r.2.1 != 0) || (r.2.2 != 0)) || (r1.2.2 != 70)) || (r1.2.1 != 0)) || (r2.2.2 != 0)) || (r3.2.2 != 0)) || (r4.2.2 != 70))) rfl pv_move ?_
              refine wo_meet 3 [(1, (.sl 4 (List.map rToken r.1))), (4, (.sl 4 (List.map rToken [({ Kind := 1, Text := [101, 97, 114, 110], N := 0, At := 0 } : Token), ({ Kind := 2, Text := [], N := 30, At := 5 } : Token), ({ Kind := 3, Text := [59], N := 0, At := 7 } : Token)]))), (8, (.sl 4 (List.map rToken r2.1))), (11, (.sl 4 (List.map rToken r3.1))), (17, (.sl 4 (List.map rToken r5.1))), (19, (.int .i64 r5.2.2)), (20, (.str r6.1)), (21, (.int .i64 r6.2)), (22, (.sl 4 (List.map rToken r7.1))), (24, (.int .i64 r7.2.2)), (26, (.int .i64 r8.2)), (106, (.bool ((((((((r.2.1 != 0) || (r.2.2 != 0)) || (r1.2.2 != 70)) || (r1.2.1 != 0)) || (r2.2.2 != 0)) || (r3.2.2 != 0)) || (r4.2.2 != 70)) || (r4.2.1 != 2))))] ?_ fun hJ6 => wo_cases (((((((r.2.1 != 0) || (r.2.2 != 0)) || (r1.2.2 != 70)) || (r1.2.1 != 0)) || (r2.2.2 != 0)) || (r3.2.2 != 0)) || (r4.2.2 != 70)) (fun hb13 => ?_) (fun hb13 => ?_)
              · refine wo_val (.bool ((((((((r.2.1 != 0) || (r.2.2 != 0)) || (r1.2.2 != 70)) || (r1.2.1 != 0)) || (r2.2.2 != 0)) || (r3.2.2 != 0)) || (r4.2.2 != 70)) || (r4.2.1 != 2))) rfl pv_move ?_
                refine wo_meet 3 [(1, (.sl 4 (List.map rToken r.1))), (4, (.sl 4 (List.map rToken [({ Kind := 1, Text := [101, 97, 114, 110], N := 0, At := 0 } : Token), ({ Kind := 2, Text := [], N := 30, At := 5 } : Token), ({ Kind := 3, Text := [59], N := 0, At := 7 } : Token)]))), (8, (.sl 4 (List.map rToken r2.1))), (11, (.sl 4 (List.map rToken r3.1))), (17, (.sl 4 (List.map rToken r5.1))), (20, (.str r6.1)), (21, (.int .i64 r6.2)), (22, (.sl 4 (List.map rToken r7.1))), (24, (.int .i64 r7.2.2)), (26, (.int .i64 r8.2)), (110, (.bool (((((((((r.2.1 != 0) || (r.2.2 != 0)) || (r1.2.2 != 70)) || (r1.2.1 != 0)) || (r2.2.2 != 0)) || (r3.2.2 != 0)) || (r4.2.2 != 70)) || (r4.2.1 != 2)) || (r5.2.2 != 0))))] ?_ fun hJ7 => wo_cases ((((((((r.2.1 != 0) || (r.2.2 != 0)) || (r1.2.2 != 70)) || (r1.2.1 != 0)) || (r2.2.2 != 0)) || (r3.2.2 != 0)) || (r4.2.2 != 70)) || (r4.2.1 != 2)) (fun hb15 => ?_) (fun hb15 => ?_)
                · refine wo_val (.bool (((((((((r.2.1 != 0) || (r.2.2 != 0)) || (r1.2.2 != 70)) || (r1.2.1 != 0)) || (r2.2.2 != 0)) || (r3.2.2 != 0)) || (r4.2.2 != 70)) || (r4.2.1 != 2)) || (r5.2.2 != 0))) rfl pv_move ?_
                  refine wo_meet 3 [(1, (.sl 4 (List.map rToken r.1))), (4, (.sl 4 (List.map rToken [({ Kind := 1, Text := [101, 97, 114, 110], N := 0, At := 0 } : Token), ({ Kind := 2, Text := [], N := 30, At := 5 } : Token), ({ Kind := 3, Text := [59], N := 0, At := 7 } : Token)]))), (8, (.sl 4 (List.map rToken r2.1))), (11, (.sl 4 (List.map rToken r3.1))), (17, (.sl 4 (List.map rToken r5.1))), (20, (.str r6.1)), (22, (.sl 4 (List.map rToken r7.1))), (24, (.int .i64 r7.2.2)), (26, (.int .i64 r8.2)), (114, (.bool ((((((((((r.2.1 != 0) || (r.2.2 != 0)) || (r1.2.2 != 70)) || (r1.2.1 != 0)) || (r2.2.2 != 0)) || (r3.2.2 != 0)) || (r4.2.2 != 70)) || (r4.2.1 != 2)) || (r5.2.2 != 0)) || (r6.2 != 0))))] ?_ fun hJ8 => wo_cases (((((((((r.2.1 != 0) || (r.2.2 != 0)) || (r1.2.2 != 70)) || (r1.2.1 != 0)) || (r2.2.2 != 0)) || (r3.2.2 != 0)) || (r4.2.2 != 70)) || (r4.2.1 != 2)) || (r5.2.2 != 0)) (fun hb17 => ?_) (fun hb17 => ?_)
                  · refine wo_val (.bool ((((((((((r.2.1 != 0) || (r.2.2 != 0)) || (r1.2.2 != 70)) || (r1.2.1 != 0)) || (r2.2.2 != 0)) || (r3.2.2 != 0)) || (r4.2.2 != 70)) || (r4.2.1 != 2)) || (r5.2.2 != 0)) || (r6.2 != 0))) rfl pv_move ?_
                    refine wo_meet 3 [(1, (.sl 4 (List.map rToken r.1))), (4, (.sl 4 (List.map rToken [({ Kind := 1, Text := [101, 97, 114, 110], N := 0, At := 0 } : Token), ({ Kind := 2, Text := [], N := 30, At := 5 } : Token), ({ Kind := 3, Text := [59], N := 0, At := 7 } : Token)]))), (8, (.sl 4 (List.map rToken r2.1))), (11, (.sl 4 (List.map rToken r3.1))), (17, (.sl 4 (List.map rToken r5.1))), (20, (.str r6.1)), (22, (.sl 4 (List.map rToken r7.1))), (26, (.int .i64 r8.2)), (118, (.bool (((((((((((r.2.1 != 0) || (r.2.2 != 0)) || (r1.2.2 != 70)) || (r1.2.1 != 0)) || (r2.2.2 != 0)) || (r3.2.2 != 0)) || (r4.2.2 != 70)) || (r4.2.1 != 2)) || (r5.2.2 != 0)) || (r6.2 != 0)) || (r7.2.2 != 0))))] ?_ fun hJ9 => wo_cases ((((((((((r.2.1 != 0) || (r.2.2 != 0)) || (r1.2.2 != 70)) || (r1.2.1 != 0)) || (r2.2.2 != 0)) || (r3.2.2 != 0)) || (r4.2.2 != 70)) || (r4.2.1 != 2)) || (r5.2.2 != 0)) || (r6.2 != 0)) (fun hb19 => ?_) (fun hb19 => ?_)
                    · refine wo_val (.bool (((((((((((r.2.1 != 0) || (r.2.2 != 0)) || (r1.2.2 != 70)) || (r1.2.1 != 0)) || (r2.2.2 != 0)) || (r3.2.2 != 0)) || (r4.2.2 != 70)) || (r4.2.1 != 2)) || (r5.2.2 != 0)) || (r6.2 != 0)) || (r7.2.2 != 0))) rfl pv_move ?_
                      refine wo_meet 3 [(1, (.sl 4 (List.map rToken r.1))), (4, (.sl 4 (List.map rToken [({ Kind := 1, Text := [101, 97, 114, 110], N := 0, At := 0 } : Token), ({ Kind := 2, Text := [], N := 30, At := 5 } : Token), ({ Kind := 3, Text := [59], N := 0, At := 7 } : Token)]))), (8, (.sl 4 (List.map rToken r2.1))), (11, (.sl 4 (List.map rToken r3.1))), (17, (.sl 4 (List.map rToken r5.1))), (20, (.str r6.1)), (22, (.sl 4 (List.map rToken r7.1))), (122, (.bool ((((((((((((r.2.1 != 0) || (r.2.2 != 0)) || (r1.2.2 != 70)) || (r1.2.1 != 0)) || (r2.2.2 != 0)) || (r3.2.2 != 0)) || (r4.2.2 != 70)) || (r4.2.1 != 2)) || (r5.2.2 != 0)) || (r6.2 != 0)) || (r7.2.2 != 0)) || (r8.2 != 70))))] ?_ fun hJ10 => wo_cases (((((((((((r.2.1 != 0) || (r.2.2 != 0)) || (r1.2.2 != 70)) || (r1.2.1 != 0)) || (r2.2.2 != 0)) || (r3.2.2 != 0)) || (r4.2.2 != 70)) || (r4.2.1 != 2)) || (r5.2.2 != 0)) || (r6.2 != 0)) || (r7.2.2 != 0)) (fun hb21 => ?_) (fun hb21 => ?_)
                      · refine wo_val (.bool ((((((((((((r.2.1 != 0) || (r.2.2 != 0)) || (r1.2.2 != 70)) || (r1.2.1 != 0)) || (r2.2.2 != 0)) || (r3.2.2 != 0)) || (r4.2.2 != 70)) || (r4.2.1 != 2)) || (r5.2.2 != 0)) || (r6.2 != 0)) || (r7.2.2 != 0)) || (r8.2 != 70))) rfl pv_move ?_
                        refine wo_meet 4 [(1, (.sl 4 (List.map rToken r.1))), (4, (.sl 4 (List.map rToken [({ Kind := 1, Text := [101, 97, 114, 110], N := 0, At := 0 } : Token), ({ Kind := 2, Text := [], N := 30, At := 5 } : Token), ({ Kind := 3, Text := [59], N := 0, At := 7 } : Token)]))), (8, (.sl 4 (List.map rToken r2.1))), (11, (.sl 4 (List.map rToken r3.1))), (17, (.sl 4 (List.map rToken r5.1))), (20, (.str r6.1)), (127, (.bool (((((((((((((r.2.1 != 0) || (r.2.2 != 0)) || (r1.2.2 != 70)) || (r1.2.1 != 0)) || (r2.2.2 != 0)) || (r3.2.2 != 0)) || (r4.2.2 != 70)) || (r4.2.1 != 2)) || (r5.2.2 != 0)) || (r6.2 != 0)) || (r7.2.2 != 0)) || (r8.2 != 70)) || ((r7.1.length : Int) != 0))))] ?_ fun hJ11 => wo_cases ((((((((((((r.2.1 != 0) || (r.2.2 != 0)) || (r1.2.2 != 70)) || (r1.2.1 != 0)) || (r2.2.2 != 0)) || (r3.2.2 != 0)) || (r4.2.2 != 70)) || (r4.2.1 != 2)) || (r5.2.2 != 0)) || (r6.2 != 0)) || (r7.2.2 != 0)) || (r8.2 != 70)) (fun hb23 => ?_) (fun hb23 => ?_)
                        · refine wo_nil ?_
                          refine wf_iteb rfl (fun hc => ?_) (fun hc => ?_)
                          · refine wr_seq ?_
                            refine wr_region ?_
                            refine wo_val (.bool false) rfl pv_assign ?_
                            refine wo_nil ?_
                            exact wr_ret (a := false) (vs := [(.bool false)]) Tryd.func11 hI rfl (.same _)
                          · refine wr_skip ?_
                            refine wr_seq ?_
                            refine wr_region ?_
                            refine wo_val (.sl 4 (List.map rToken r.1)) rfl pv_move ?_
                            refine wo_val (.sl 4 (List.map rToken [({ Kind := 1, Text := [101, 97, 114, 110], N := 0, At := 0 } : Token), ({ Kind := 2, Text := [], N := 30, At := 5 } : Token), ({ Kind := 3, Text := [59], N := 0, At := 7 } : Token)])) rfl pv_move ?_
                            refine of_call [(.sl 4 (List.map rToken r.1)), (.sl 4 (List.map rToken [({ Kind := 1, Text := [101, 97, 114, 110], N := 0, At := 0 } : Token), ({ Kind := 2, Text := [], N := 30, At := 5 } : Token), ({ Kind := 3, Text := [59], N := 0, At := 7 } : Token)]))] rfl rfl rfl rfl ((cp_ref07_Equal r.1 [({ Kind := 1, Text := [101, 97, 114, 110], N := 0, At := 0 } : Token), ({ Kind := 2, Text := [], N := 30, At := 5 } : Token), ({ Kind := 3, Text := [59], N := 0, At := 7 } : Token)]) _) (fun v _ => wu_pan Tryd.func11 hI) fun r9 _ => ?_
                            refine wo_val (.bool r9) rfl pv_move ?_
                            refine wo_meet 4 [(8, (.sl 4 (List.map rToken r2.1))), (11, (.sl 4 (List.map rToken r3.1))), (17, (.sl 4 (List.map rToken r5.1))), (20, (.str r6.1)), (135, (.bool (r9 && ((r2.1.length : Int) == 1))))] ?_ fun hJ12 => wo_cases r9 (fun hb25 => ?_) (fun hb25 => ?_)
                            · refine wo_val (.bool (r9 && ((r2.1.length : Int) == 1))) rfl pv_move ?_
                              refine wo_join 6 ((fun (b : Bool) => (if (b && ((r3.1.length : Int) == 1)) then (idx r3.1 0).bind fun a1 =>
  R.ok (a1.Text == [97]) else R.ok false).bind (fun (b1 : Bool) => (if (b1 && (r6.1 == [97, 32, 61, 32, 49])) then (lex_Name [66, 95, 49, 50]).bind fun r10 =>
  R.ok r10 else R.ok false).bind (fun (b2 : Bool) => (if b2 then (lex_Name [95, 49, 50]).bind fun r11 =>
  R.ok (!r11) else R.ok false).bind (fun (b3 : Bool) => (if b3 then (lex_Same r3.1 r5.1).bind fun r12 =>
  R.ok (!r12) else R.ok false).bind (fun (b4 : Bool) => (if b4 then (lex_Same r3.1 [({ Kind := 1, Text := [97], N := 0, At := 9 } : Token)]).bind fun r13 =>
  R.ok r13 else R.ok false).bind (fun (b5 : Bool) => .ok b5)))))) : Bool → R Bool) (fun (b : Bool) (fr : Nat → AV) (h : AHeap) => fr = frA [(11, (.sl 4 (List.map rToken r3.1))), (17, (.sl 4 (List.map rToken r5.1))), (20, (.str r6.1)), (142, (.bool b))] ∧ h = hp h0 ids []) ?_ fun hJ13 => of_if1 (fun hb27 => ?_) (fun hb27 => ?_)
                              · rintro b fr h ⟨rfl, rfl⟩
                                refine wo_val (.bool b) rfl pv_move ?_
                                refine wo_meet 4 [(11, (.sl 4 (List.map rToken r3.1))), (17, (.sl 4 (List.map rToken r5.1))), (20, (.str r6.1)), (147, (.bool (b && ((r3.1.length : Int) == 1))))] ?_ fun hJ14 => wo_cases b (fun hb29 => ?_) (fun hb29 => ?_)
                                · refine wo_val (.bool (b && ((r3.1.length : Int) == 1))) rfl pv_move ?_
                                  refine wo_join 6 ((fun (b1 : Bool) => (if (b1 && (r6.1 == [97, 32, 61, 32, 49])) then (lex_Name [66, 95, 49, 50]).bind fun r10 =>
  R.ok r10 else R.ok false).bind (fun (b2 : Bool) => (if b2 then (lex_Name [95, 49, 50]).bind fun r11 =>
  R.ok (!r11) else R.ok false).bind (fun (b3 : Bool) => (if b3 then (lex_Same r3.1 r5.1).bind fun r12 =>
  R.ok (!r12) else R.ok false).bind (fun (b4 : Bool) => (if b4 then (lex_Same r3.1 [({ Kind := 1, Text := [97], N := 0, At := 9 } : Token)]).bind fun r13 =>
  R.ok r13 else R.ok false).bind (fun (b5 : Bool) => .ok b5))))) : Bool → R Bool) (fun (b1 : Bool) (fr : Nat → AV) (h : AHeap) => fr = frA [(11, (.sl 4 (List.map rToken r3.1))), (17, (.sl 4 (List.map rToken r5.1))), (20, (.str r6.1)), (154, (.bool b1))] ∧ h = hp h0 ids []) ?_ fun hJ15 => of_if1 (fun hb31 => ?_) (fun hb31 => ?_)
                                  · rintro b1 fr h ⟨rfl, rfl⟩
                                    refine wo_val (.bool b1) rfl pv_move ?_
                                    refine wo_meet 3 [(11, (.sl 4 (List.map rToken r3.1))), (17, (.sl 4 (List.map rToken r5.1))), (158, (.bool (b1 && (r6.1 == [97, 32, 61, 32, 49]))))] ?_ fun hJ16 => wo_cases b1 (fun hb33 => ?_) (fun hb33 => ?_)
                                    · refine wo_val (.bool (b1 && (r6.1 == [97, 32, 61, 32, 49]))) rfl pv_move ?_
                                      refine wo_join 2 ((fun (b2 : Bool) => (if b2 then (lex_Name [95, 49, 50]).bind fun r11 =>
  R.ok (!r11) else R.ok false).bind (fun (b3 : Bool) => (if b3 then (lex_Same r3.1 r5.1).bind fun r12 =>
  R.ok (!r12) else R.ok false).bind (fun (b4 : Bool) => (if b4 then (lex_Same r3.1 [({ Kind := 1, Text := [97], N := 0, At := 9 } : Token)]).bind fun r13 =>
  R.ok r13 else R.ok false).bind (fun (b5 : Bool) => .ok b5)))) : Bool → R Bool) (fun (b2 : Bool) (fr : Nat → AV) (h : AHeap) => fr = frA [(11, (.sl 4 (List.map rToken r3.1))), (17, (.sl 4 (List.map rToken r5.1))), (161, (.bool b2))] ∧ h = hp h0 ids []) ?_ fun hJ17 => of_if1 (fun hb35 => ?_) (fun hb35 => ?_)
                                      · rintro b2 fr h ⟨rfl, rfl⟩
                                        refine wo_val (.bool b2) rfl pv_move ?_
                                        refine wo_join 3 ((fun (b3 : Bool) => (if b3 then (lex_Same r3.1 r5.1).bind fun r12 =>
  R.ok (!r12) else R.ok false).bind (fun (b4 : Bool) => (if b4 then (lex_Same r3.1 [({ Kind := 1, Text := [97], N := 0, At := 9 } : Token)]).bind fun r13 =>
  R.ok r13 else R.ok false).bind (fun (b5 : Bool) => .ok b5))) : Bool → R Bool) (fun (b3 : Bool) (fr : Nat → AV) (h : AHeap) => fr = frA [(11, (.sl 4 (List.map rToken r3.1))), (17, (.sl 4 (List.map rToken r5.1))), (165, (.bool b3))] ∧ h = hp h0 ids []) ?_ fun hJ18 => of_if1 (fun hb37 => ?_) (fun hb37 => ?_)
                                        · rintro b3 fr h ⟨rfl, rfl⟩
                                          refine wo_val (.bool b3) rfl pv_move ?_
                                          refine wo_join 5 ((fun (b4 : Bool) => (if b4 then (lex_Same r3.1 [({ Kind := 1, Text := [97], N := 0, At := 9 } : Token)]).bind fun r13 =>
  R.ok r13 else R.ok false).bind (fun (b5 : Bool) => .ok b5)) : Bool → R Bool) (fun (b4 : Bool) (fr : Nat → AV) (h : AHeap) => fr = frA [(11, (.sl 4 (List.map rToken r3.1))), (171, (.bool b4))] ∧ h = hp h0 ids []) ?_ fun hJ19 => of_if1 (fun hb39 => ?_) (fun hb39 => ?_)
                                          · rintro b4 fr h ⟨rfl, rfl⟩
                                            refine wo_val (.bool b4) rfl pv_move ?_
                                            refine wo_join 5 ((fun (b5 : Bool) => .ok b5) : Bool → R Bool) (fun (b5 : Bool) (fr : Nat → AV) (h : AHeap) => fr = frA [(177, (.bool b5))] ∧ h = hp h0 ids []) ?_ fun hJ20 => of_if1 (fun hb41 => ?_) (fun hb41 => ?_)
                                            · rintro b5 fr h ⟨rfl, rfl⟩
                                              refine wo_val (.bool b5) rfl pv_assign ?_
                                              refine wo_nil ?_
                                              exact wr_ret (a := b5) (vs := [(.bool b5)]) Tryd.func11 hI rfl (.same _)
                                            · refine wo_valg (tj := 172) (.sl 4 (List.map rToken r3.1)) rfl (congrArg AV.bool hb41) rfl pv_move ?_
                                              refine wo_valg (tj := 172) (.agg [(.int .i64 1), (.str [97]), (.int .i64 0), (.int .i64 9)]) rfl (congrArg AV.bool hb41) rfl (pv_build (bd_st ti35 pl35 rfl)) ?_
                                              refine wo_opg (tj := 172) rfl (congrArg AV.bool hb41) rfl (fun _ _ => rfl) (fun K hK => eff_bsC (e := rToken) (L := [({ Kind := 1, Text := [97], N := 0, At := 9 } : Token)]) (st := 4) (rows := [[(.int .i64 1), (.str [97]), (.int .i64 0), (.int .i64 9)]]) ti23 ti35 rfl rfl rfl rfl rfl (.cons (.cons (.same _) (.cons (.same _) (.cons (.same _) (.cons (.same _) .nil)))) .nil) (fun x => ok_Token x) rfl rfl (hK _ _ ?_)) 
                                              clear hK K
                                              refine of_call [(.sl 4 (List.map rToken r3.1)), (.sl 4 (List.map rToken [({ Kind := 1, Text := [97], N := 0, At := 9 } : Token)]))] rfl (wanted_yes (tj := 172) rfl (congrArg AV.bool hb41)) rfl rfl ((cp_lex_Same r3.1 [({ Kind := 1, Text := [97], N := 0, At := 9 } : Token)]) _) (fun v _ => wu_pan Tryd.func11 hI) fun r13 _ => ?_
                                              refine wo_val (.bool r13) rfl (pv_pick (t := true) (congrArg AV.bool hb41) rfl) ?_
                                              refine wo_back1 ?_
                                              refine wo_is [(177, (.bool r13))] (.cons rfl .nil) ?_
                                              exact hJ20 r13 _ _ ⟨rfl, rfl⟩
                                            · refine wo_not (tj := 172) (b := false) rfl (congrArg AV.bool hb41) rfl rfl ?_
                                              refine wo_not (tj := 172) (b := false) rfl (congrArg AV.bool hb41) rfl rfl ?_
                                              refine wo_not (tj := 172) (b := false) rfl (congrArg AV.bool hb41) rfl rfl ?_
                                              refine wo_not (tj := 172) (b := false) rfl (congrArg AV.bool hb41) rfl rfl ?_
                                              refine wo_val (.bool false) rfl (pv_pick (t := false) (congrArg AV.bool hb41) rfl) ?_
                                              refine wo_back1 ?_
                                              refine wo_is [(177, (.bool false))] (.cons rfl .nil) ?_
                                              exact hJ20 false _ _ ⟨rfl, rfl⟩
                                          · refine wo_valg (tj := 166) (.sl 4 (List.map rToken r3.1)) rfl (congrArg AV.bool hb39) rfl pv_move ?_
                                            refine wo_valg (tj := 166) (.sl 4 (List.map rToken r5.1)) rfl (congrArg AV.bool hb39) rfl pv_move ?_
                                            refine of_call [(.sl 4 (List.map rToken r3.1)), (.sl 4 (List.map rToken r5.1))] rfl (wanted_yes (tj := 166) rfl (congrArg AV.bool hb39)) rfl rfl ((cp_lex_Same r3.1 r5.1) _) (fun v _ => wu_pan Tryd.func11 hI) fun r12 _ => ?_
                                            refine wo_valg (tj := 166) (.bool (!r12)) rfl (congrArg AV.bool hb39) rfl (pv_un rfl) ?_
                                            refine wo_val (.bool (!r12)) rfl (pv_pick (t := true) (congrArg AV.bool hb39) rfl) ?_
                                            refine wo_back1 ?_
                                            refine wo_is [(11, (.sl 4 (List.map rToken r3.1))), (171, (.bool (!r12)))] (.cons rfl (.cons rfl .nil)) ?_
                                            exact hJ19 (!r12) _ _ ⟨rfl, rfl⟩
                                          · refine wo_not (tj := 166) (b := false) rfl (congrArg AV.bool hb39) rfl rfl ?_
                                            refine wo_not (tj := 166) (b := false) rfl (congrArg AV.bool hb39) rfl rfl ?_
                                            refine wo_not (tj := 166) (b := false) rfl (congrArg AV.bool hb39) rfl rfl ?_
                                            refine wo_not (tj := 166) (b := false) rfl (congrArg AV.bool hb39) rfl rfl ?_
                                            refine wo_val (.bool false) rfl (pv_pick (t := false) (congrArg AV.bool hb39) rfl) ?_
                                            refine wo_back1 ?_
                                            refine wo_is [(11, (.sl 4 (List.map rToken r3.1))), (171, (.bool false))] (.cons rfl (.cons rfl .nil)) ?_
                                            exact hJ19 false _ _ ⟨rfl, rfl⟩
                                        · refine of_call [(.str [95, 49, 50])] rfl (wanted_yes (tj := 162) rfl (congrArg AV.bool hb37)) rfl rfl ((cp_lex_Name [95, 49, 50]) _) (fun v _ => wu_pan Tryd.func11 hI) fun r11 _ => ?_
                                          refine wo_valg (tj := 162) (.bool (!r11)) rfl (congrArg AV.bool hb37) rfl (pv_un rfl) ?_
                                          refine wo_val (.bool (!r11)) rfl (pv_pick (t := true) (congrArg AV.bool hb37) rfl) ?_
                                          refine wo_back1 ?_
                                          refine wo_is [(11, (.sl 4 (List.map rToken r3.1))), (17, (.sl 4 (List.map rToken r5.1))), (165, (.bool (!r11)))] (.cons rfl (.cons rfl (.cons rfl .nil))) ?_
                                          exact hJ18 (!r11) _ _ ⟨rfl, rfl⟩
                                        · refine wo_not (tj := 162) (b := false) rfl (congrArg AV.bool hb37) rfl rfl ?_
                                          refine wo_not (tj := 162) (b := false) rfl (congrArg AV.bool hb37) rfl rfl ?_
                                          refine wo_val (.bool false) rfl (pv_pick (t := false) (congrArg AV.bool hb37) rfl) ?_
                                          refine wo_back1 ?_
                                          refine wo_is [(11, (.sl 4 (List.map rToken r3.1))), (17, (.sl 4 (List.map rToken r5.1))), (165, (.bool false))] (.cons rfl (.cons rfl (.cons rfl .nil))) ?_
                                          exact hJ18 false _ _ ⟨rfl, rfl⟩
                                      · refine of_call [(.str [66, 95, 49, 50])] rfl (wanted_yes (tj := 159) rfl (congrArg AV.bool hb35)) rfl rfl ((cp_lex_Name [66, 95, 49, 50]) _) (fun v _ => wu_pan Tryd.func11 hI) fun r10 _ => ?_
                                        refine wo_val (.bool r10) rfl (pv_pick (t := true) (congrArg AV.bool hb35) rfl) ?_
                                        refine wo_back1 ?_
                                        refine wo_is [(11, (.sl 4 (List.map rToken r3.1))), (17, (.sl 4 (List.map rToken r5.1))), (161, (.bool r10))] (.cons rfl (.cons rfl (.cons rfl .nil))) ?_
                                        exact hJ17 r10 _ _ ⟨rfl, rfl⟩
                                      · refine wo_not (tj := 159) (b := false) rfl (congrArg AV.bool hb35) rfl rfl ?_
                                        refine wo_val (.bool false) rfl (pv_pick (t := false) (congrArg AV.bool hb35) rfl) ?_
                                        refine wo_back1 ?_
                                        refine wo_is [(11, (.sl 4 (List.map rToken r3.1))), (17, (.sl 4 (List.map rToken r5.1))), (161, (.bool false))] (.cons rfl (.cons rfl (.cons rfl .nil))) ?_
                                        exact hJ17 false _ _ ⟨rfl, rfl⟩
                                    · refine wo_valg (tj := 155) (.str r6.1) rfl (congrArg AV.bool hb33) rfl pv_move ?_
                                      refine wo_valg (tj := 155) (.bool (r6.1 == [97, 32, 61, 32, 49])) rfl (congrArg AV.bool hb33) rfl (pv_bin rfl rfl rfl) ?_
                                      refine wo_val (.bool (r6.1 == [97, 32, 61, 32, 49])) rfl (pv_pick (t := true) (congrArg AV.bool hb33) rfl) ?_
                                      exact wo_is [(11, (.sl 4 (List.map rToken r3.1))), (17, (.sl 4 (List.map rToken r5.1))), (158, (.bool (b1 && (r6.1 == [97, 32, 61, 32, 49]))))] (.cons rfl (.cons rfl (.cons (and_t hb33) .nil))) hJ16
                                    · refine wo_not (tj := 155) (b := false) rfl (congrArg AV.bool hb33) rfl rfl ?_
                                      refine wo_not (tj := 155) (b := false) rfl (congrArg AV.bool hb33) rfl rfl ?_
                                      refine wo_val (.bool false) rfl (pv_pick (t := false) (congrArg AV.bool hb33) rfl) ?_
                                      exact wo_is [(11, (.sl 4 (List.map rToken r3.1))), (17, (.sl 4 (List.map rToken r5.1))), (158, (.bool (b1 && (r6.1 == [97, 32, 61, 32, 49]))))] (.cons rfl (.cons rfl (.cons (and_f hb33) .nil))) hJ16
                                  · refine wo_valg (tj := 148) (.sl 4 (List.map rToken r3.1)) rfl (congrArg AV.bool hb31) rfl pv_move ?_
                                    refine of_idx fun a1 hz1 hx2 => ?_
                                    refine wo_valg (tj := 148) (.cp (rToken a1) 0) rfl (congrArg AV.bool hb31) rfl (pv_ixa (ixa_sl ti23 ti35 rfl hz1 hx2)) ?_
                                    refine wo_valg (tj := 148) (.cp (rToken a1) 1) rfl (congrArg AV.bool hb31) rfl (pv_fa (fa_cp (c := 0) (off := 1) (i := 1) ti35 rfl ti9 rfl)) ?_
                                    refine wo_valg (tj := 148) (.str a1.Text) rfl (congrArg AV.bool hb31) rfl (pv_load (ld_cp ti9 rfl)) ?_
                                    refine wo_valg (tj := 148) (.bool (a1.Text == [97])) rfl (congrArg AV.bool hb31) rfl (pv_bin rfl rfl rfl) ?_
                                    refine wo_val (.bool (a1.Text == [97])) rfl (pv_pick (t := true) (congrArg AV.bool hb31) rfl) ?_
                                    refine wo_back1 ?_
                                    refine wo_is [(11, (.sl 4 (List.map rToken r3.1))), (17, (.sl 4 (List.map rToken r5.1))), (20, (.str r6.1)), (154, (.bool (a1.Text == [97])))] (.cons rfl (.cons rfl (.cons rfl (.cons rfl .nil)))) ?_
                                    exact hJ15 (a1.Text == [97]) _ _ ⟨rfl, rfl⟩
                                  · refine wo_not (tj := 148) (b := false) rfl (congrArg AV.bool hb31) rfl rfl ?_
                                    refine wo_not (tj := 148) (b := false) rfl (congrArg AV.bool hb31) rfl rfl ?_
                                    refine wo_not (tj := 148) (b := false) rfl (congrArg AV.bool hb31) rfl rfl ?_
                                    refine wo_not (tj := 148) (b := false) rfl (congrArg AV.bool hb31) rfl rfl ?_
                                    refine wo_not (tj := 148) (b := false) rfl (congrArg AV.bool hb31) rfl rfl ?_
                                    refine wo_val (.bool false) rfl (pv_pick (t := false) (congrArg AV.bool hb31) rfl) ?_
                                    refine wo_back1 ?_
                                    refine wo_is [(11, (.sl 4 (List.map rToken r3.1))), (17, (.sl 4 (List.map rToken r5.1))), (20, (.str r6.1)), (154, (.bool false))] (.cons rfl (.cons rfl (.cons rfl (.cons rfl .nil)))) ?_
                                    exact hJ15 false _ _ ⟨rfl, rfl⟩
                                · refine wo_valg (tj := 143) (.sl 4 (List.map rToken r3.1)) rfl (congrArg AV.bool hb29) rfl pv_move ?_
                                  refine wo_valg (tj := 143) (.int .i64 (r3.1.length : Int)) rfl (congrArg AV.bool hb29) rfl (pv_len (len_sl ti23)) ?_
                                  refine wo_valg (tj := 143) (.bool ((r3.1.length : Int) == 1)) rfl (congrArg AV.bool hb29) rfl (pv_bin rfl rfl rfl) ?_
                                  refine wo_val (.bool ((r3.1.length : Int) == 1)) rfl (pv_pick (t := true) (congrArg AV.bool hb29) rfl) ?_
                                  exact wo_is [(11, (.sl 4 (List.map rToken r3.1))), (17, (.sl 4 (List.map rToken r5.1))), (20, (.str r6.1)), (147, (.bool (b && ((r3.1.length : Int) == 1))))] (.cons rfl (.cons rfl (.cons rfl (.cons (and_t hb29) .nil)))) hJ14
                                · refine wo_not (tj := 143) (b := false) rfl (congrArg AV.bool hb29) rfl rfl ?_
                                  refine wo_not (tj := 143) (b := false) rfl (congrArg AV.bool hb29) rfl rfl ?_
                                  refine wo_not (tj := 143) (b := false) rfl (congrArg AV.bool hb29) rfl rfl ?_
                                  refine wo_val (.bool false) rfl (pv_pick (t := false) (congrArg AV.bool hb29) rfl) ?_
                                  exact wo_is [(11, (.sl 4 (List.map rToken r3.1))), (17, (.sl 4 (List.map rToken r5.1))), (20, (.str r6.1)), (147, (.bool (b && ((r3.1.length : Int) == 1))))] (.cons rfl (.cons rfl (.cons rfl (.cons (and_f hb29) .nil)))) hJ14
                              · refine wo_valg (tj := 136) (.sl 4 (List.map rToken r2.1)) rfl (congrArg AV.bool hb27) rfl pv_move ?_
                                refine of_idx fun a hz hx1 => ?_
                                refine wo_valg (tj := 136) (.cp (rToken a) 0) rfl (congrArg AV.bool hb27) rfl (pv_ixa (ixa_sl ti23 ti35 rfl hz hx1)) ?_
                                refine wo_valg (tj := 136) (.cp (rToken a) 2) rfl (congrArg AV.bool hb27) rfl (pv_fa (fa_cp (c := 0) (off := 2) (i := 2) ti35 rfl ti3 rfl)) ?_
                                refine wo_valg (tj := 136) (.int .i64 a.N) rfl (congrArg AV.bool hb27) rfl (pv_load (ld_cp ti3 rfl)) ?_
                                refine wo_valg (tj := 136) (.bool (a.N == 1099511627776)) rfl (congrArg AV.bool hb27) rfl (pv_bin rfl rfl rfl) ?_
                                refine wo_val (.bool (a.N == 1099511627776)) rfl (pv_pick (t := true) (congrArg AV.bool hb27) rfl) ?_
                                refine wo_back1 ?_
                                refine wo_is [(11, (.sl 4 (List.map rToken r3.1))), (17, (.sl 4 (List.map rToken r5.1))), (20, (.str r6.1)), (142, (.bool (a.N == 1099511627776)))] (.cons rfl (.cons rfl (.cons rfl (.cons rfl .nil)))) ?_
                                exact hJ13 (a.N == 1099511627776) _ _ ⟨rfl, rfl⟩
                              · refine wo_not (tj := 136) (b := false) rfl (congrArg AV.bool hb27) rfl rfl ?_
                                refine wo_not (tj := 136) (b := false) rfl (congrArg AV.bool hb27) rfl rfl ?_
                                refine wo_not (tj := 136) (b := false) rfl (congrArg AV.bool hb27) rfl rfl ?_
                                refine wo_not (tj := 136) (b := false) rfl (congrArg AV.bool hb27) rfl rfl ?_
                                refine wo_not (tj := 136) (b := false) rfl (congrArg AV.bool hb27) rfl rfl ?_
                                refine wo_val (.bool false) rfl (pv_pick (t := false) (congrArg AV.bool hb27) rfl) ?_
                                refine wo_back1 ?_
                                refine wo_is [(11, (.sl 4 (List.map rToken r3.1))), (17, (.sl 4 (List.map rToken r5.1))), (20, (.str r6.1)), (142, (.bool false))] (.cons rfl (.cons rfl (.cons rfl (.cons rfl .nil)))) ?_
                                exact hJ13 false _ _ ⟨rfl, rfl⟩
                            · refine wo_valg (tj := 131) (.sl 4 (List.map rToken r2.1)) rfl (congrArg AV.bool hb25) rfl pv_move ?_
                              refine wo_valg (tj := 131) (.int .i64 (r2.1.length : Int)) rfl (congrArg AV.bool hb25) rfl (pv_len (len_sl ti23)) ?_
                              refine wo_valg (tj := 131) (.bool ((r2.1.length : Int) == 1)) rfl (congrArg AV.bool hb25) rfl (pv_bin rfl rfl rfl) ?_
                              refine wo_val (.bool ((r2.1.length : Int) == 1)) rfl (pv_pick (t := true) (congrArg AV.bool hb25) rfl) ?_
                              exact wo_is [(8, (.sl 4 (List.map rToken r2.1))), (11, (.sl 4 (List.map rToken r3.1))), (17, (.sl 4 (List.map rToken r5.1))), (20, (.str r6.1)), (135, (.bool (r9 && ((r2.1.length : Int) == 1))))] (.cons rfl (.cons rfl (.cons rfl (.cons rfl (.cons (and_t hb25) .nil))))) hJ12
                            · refine wo_not (tj := 131) (b := false) rfl (congrArg AV.bool hb25) rfl rfl ?_
                              refine wo_not (tj := 131) (b := false) rfl (congrArg AV.bool hb25) rfl rfl ?_
                              refine wo_not (tj := 131) (b := false) rfl (congrArg AV.bool hb25) rfl rfl ?_
                              refine wo_val (.bool false) rfl (pv_pick (t := false) (congrArg AV.bool hb25) rfl) ?_
                              exact wo_is [(8, (.sl 4 (List.map rToken r2.1))), (11, (.sl 4 (List.map rToken r3.1))), (17, (.sl 4 (List.map rToken r5.1))), (20, (.str r6.1)), (135, (.bool (r9 && ((r2.1.length : Int) == 1))))] (.cons rfl (.cons rfl (.cons rfl (.cons rfl (.cons (and_f hb25) .nil))))) hJ12
                        · refine wo_not (tj := 123) (b := true) rfl (congrArg AV.bool hb23) rfl rfl ?_
                          refine wo_not (tj := 123) (b := true) rfl (congrArg AV.bool hb23) rfl rfl ?_
                          refine wo_not (tj := 123) (b := true) rfl (congrArg AV.bool hb23) rfl rfl ?_
                          refine wo_val (.bool true) rfl (pv_pick (t := true) (congrArg AV.bool hb23) rfl) ?_
                          exact wo_is [(1, (.sl 4 (List.map rToken r.1))), (4, (.sl 4 (List.map rToken [({ Kind := 1, Text := [101, 97, 114, 110], N := 0, At := 0 } : Token), ({ Kind := 2, Text := [], N := 30, At := 5 } : Token), ({ Kind := 3, Text := [59], N := 0, At := 7 } : Token)]))), (8, (.sl 4 (List.map rToken r2.1))), (11, (.sl 4 (List.map rToken r3.1))), (17, (.sl 4 (List.map rToken r5.1))), (20, (.str r6.1)), (127, (.bool (((((((((((((r.2.1 != 0) || (r.2.2 != 0)) || (r1.2.2 != 70)) || (r1.2.1 != 0)) || (r2.2.2 != 0)) || (r3.2.2 != 0)) || (r4.2.2 != 70)) || (r4.2.1 != 2)) || (r5.2.2 != 0)) || (r6.2 != 0)) || (r7.2.2 != 0)) || (r8.2 != 70)) || ((r7.1.length : Int) != 0))))] (.cons rfl (.cons rfl (.cons rfl (.cons rfl (.cons rfl (.cons rfl (.cons (or_t hb23) .nil))))))) hJ11
                        · refine wo_valg (tj := 123) (.sl 4 (List.map rToken r7.1)) rfl (congrArg AV.bool hb23) rfl pv_move ?_
                          refine wo_valg (tj := 123) (.int .i64 (r7.1.length : Int)) rfl (congrArg AV.bool hb23) rfl (pv_len (len_sl ti23)) ?_
                          refine wo_valg (tj := 123) (.bool ((r7.1.length : Int) != 0)) rfl (congrArg AV.bool hb23) rfl (pv_bin rfl rfl rfl) ?_
                          refine wo_val (.bool ((r7.1.length : Int) != 0)) rfl (pv_pick (t := false) (congrArg AV.bool hb23) rfl) ?_
                          exact wo_is [(1, (.sl 4 (List.map rToken r.1))), (4, (.sl 4 (List.map rToken [({ Kind := 1, Text := [101, 97, 114, 110], N := 0, At := 0 } : Token), ({ Kind := 2, Text := [], N := 30, At := 5 } : Token), ({ Kind := 3, Text := [59], N := 0, At := 7 } : Token)]))), (8, (.sl 4 (List.map rToken r2.1))), (11, (.sl 4 (List.map rToken r3.1))), (17, (.sl 4 (List.map rToken r5.1))), (20, (.str r6.1)), (127, (.bool (((((((((((((r.2.1 != 0) || (r.2.2 != 0)) || (r1.2.2 != 70)) || (r1.2.1 != 0)) || (r2.2.2 != 0)) || (r3.2.2 != 0)) || (r4.2.2 != 70)) || (r4.2.1 != 2)) || (r5.2.2 != 0)) || (r6.2 != 0)) || (r7.2.2 != 0)) || (r8.2 != 70)) || ((r7.1.length : Int) != 0))))] (.cons rfl (.cons rfl (.cons rfl (.cons rfl (.cons rfl (.cons rfl (.cons (or_f hb23) .nil))))))) hJ11
                      · refine wo_not (tj := 119) (b := true) rfl (congrArg AV.bool hb21) rfl rfl ?_
                        refine wo_not (tj := 119) (b := true) rfl (congrArg AV.bool hb21) rfl rfl ?_
                        refine wo_val (.bool true) rfl (pv_pick (t := true) (congrArg AV.bool hb21) rfl) ?_
                        exact wo_is [(1, (.sl 4 (List.map rToken r.1))), (4, (.sl 4 (List.map rToken [({ Kind := 1, Text := [101, 97, 114, 110], N := 0, At := 0 } : Token), ({ Kind := 2, Text := [], N := 30, At := 5 } : Token), ({ Kind := 3, Text := [59], N := 0, At := 7 } : Token)]))), (8, (.sl 4 (List.map rToken r2.1))), (11, (.sl 4 (List.map rToken r3.1))), (17, (.sl 4 (List.map rToken r5.1))), (20, (.str r6.1)), (22, (.sl 4 (List.map rToken r7.1))), (122, (.bool ((((((((((((r.2.1 != 0) || (r.2.2 != 0)) || (r1.2.2 != 70)) || (r1.2.1 != 0)) || (r2.2.2 != 0)) || (r3.2.2 != 0)) || (r4.2.2 != 70)) || (r4.2.1 != 2)) || (r5.2.2 != 0)) || (r6.2 != 0)) || (r7.2.2 != 0)) || (r8.2 != 70))))] (.cons rfl (.cons rfl (.cons rfl (.cons rfl (.cons rfl (.cons rfl (.cons rfl (.cons (or_t hb21) .nil)))))))) hJ10
                      · refine wo_valg (tj := 119) (.int .i64 r8.2) rfl (congrArg AV.bool hb21) rfl pv_move ?_
                        refine wo_valg (tj := 119) (.bool (r8.2 != 70)) rfl (congrArg AV.bool hb21) rfl (pv_bin rfl rfl rfl) ?_
                        refine wo_val (.bool (r8.2 != 70)) rfl (pv_pick (t := false) (congrArg AV.bool hb21) rfl) ?_
                        exact wo_is [(1, (.sl 4 (List.map rToken r.1))), (4, (.sl 4 (List.map rToken [({ Kind := 1, Text := [101, 97, 114, 110], N := 0, At := 0 } : Token), ({ Kind := 2, Text := [], N := 30, At := 5 } : Token), ({ Kind := 3, Text := [59], N := 0, At := 7 } : Token)]))), (8, (.sl 4 (List.map rToken r2.1))), (11, (.sl 4 (List.map rToken r3.1))), (17, (.sl 4 (List.map rToken r5.1))), (20, (.str r6.1)), (22, (.sl 4 (List.map rToken r7.1))), (122, (.bool ((((((((((((r.2.1 != 0) || (r.2.2 != 0)) || (r1.2.2 != 70)) || (r1.2.1 != 0)) || (r2.2.2 != 0)) || (r3.2.2 != 0)) || (r4.2.2 != 70)) || (r4.2.1 != 2)) || (r5.2.2 != 0)) || (r6.2 != 0)) || (r7.2.2 != 0)) || (r8.2 != 70))))] (.cons rfl (.cons rfl (.cons rfl (.cons rfl (.cons rfl (.cons rfl (.cons rfl (.cons (or_f hb21) .nil)))))))) hJ10
                    · refine wo_not (tj := 115) (b := true) rfl (congrArg AV.bool hb19) rfl rfl ?_
                      refine wo_not (tj := 115) (b := true) rfl (congrArg AV.bool hb19) rfl rfl ?_
                      refine wo_val (.bool true) rfl (pv_pick (t := true) (congrArg AV.bool hb19) rfl) ?_
                      exact wo_is [(1, (.sl 4 (List.map rToken r.1))), (4, (.sl 4 (List.map rToken [({ Kind := 1, Text := [101, 97, 114, 110], N := 0, At := 0 } : Token), ({ Kind := 2, Text := [], N := 30, At := 5 } : Token), ({ Kind := 3, Text := [59], N := 0, At := 7 } : Token)]))), (8, (.sl 4 (List.map rToken r2.1))), (11, (.sl 4 (List.map rToken r3.1))), (17, (.sl 4 (List.map rToken r5.1))), (20, (.str r6.1)), (22, (.sl 4 (List.map rToken r7.1))), (26, (.int .i64 r8.2)), (118, (.bool (((((((((((r.2.1 != 0) || (r.2.2 != 0)) || (r1.2.2 != 70)) || (r1.2.1 != 0)) || (r2.2.2 != 0)) || (r3.2.2 != 0)) || (r4.2.2 != 70)) || (r4.2.1 != 2)) || (r5.2.2 != 0)) || (r6.2 != 0)) || (r7.2.2 != 0))))] (.cons rfl (.cons rfl (.cons rfl (.cons rfl (.cons rfl (.cons rfl (.cons rfl (.cons rfl (.cons (or_t hb19) .nil))))))))) hJ9
                    · refine wo_valg (tj := 115) (.int .i64 r7.2.2) rfl (congrArg AV.bool hb19) rfl pv_move ?_
                      refine wo_valg (tj := 115) (.bool (r7.2.2 != 0)) rfl (congrArg AV.bool hb19) rfl (pv_bin rfl rfl rfl) ?_
                      refine wo_val (.bool (r7.2.2 != 0)) rfl (pv_pick (t := false) (congrArg AV.bool hb19) rfl) ?_
                      exact wo_is [(1, (.sl 4 (List.map rToken r.1))), (4, (.sl 4 (List.map rToken [({ Kind := 1, Text := [101, 97, 114, 110], N := 0, At := 0 } : Token), ({ Kind := 2, Text := [], N := 30, At := 5 } : Token), ({ Kind := 3, Text := [59], N := 0, At := 7 } : Token)]))), (8, (.sl 4 (List.map rToken r2.1))), (11, (.sl 4 (List.map rToken r3.1))), (17, (.sl 4 (List.map rToken r5.1))), (20, (.str r6.1)), (22, (.sl 4 (List.map rToken r7.1))), (26, (.int .i64 r8.2)), (118, (.bool (((((((((((r.2.1 != 0) || (r.2.2 != 0)) || (r1.2.2 != 70)) || (r1.2.1 != 0)) || (r2.2.2 != 0)) || (r3.2.2 != 0)) || (r4.2.2 != 70)) || (r4.2.1 != 2)) || (r5.2.2 != 0)) || (r6.2 != 0)) || (r7.2.2 != 0))))] (.cons rfl (.cons rfl (.cons rfl (.cons rfl (.cons rfl (.cons rfl (.cons rfl (.cons rfl (.cons (or_f hb19) .nil))))))))) hJ9
                  · refine wo_not (tj := 111) (b := true) rfl (congrArg AV.bool hb17) rfl rfl ?_
                    refine wo_not (tj := 111) (b := true) rfl (congrArg AV.bool hb17) rfl rfl ?_
                    refine wo_val (.bool true) rfl (pv_pick (t := true) (congrArg AV.bool hb17) rfl) ?_
                    exact wo_is [(1, (.sl 4 (List.map rToken r.1))), (4, (.sl 4 (List.map rToken [({ Kind := 1, Text := [101, 97, 114, 110], N := 0, At := 0 } : Token), ({ Kind := 2, Text := [], N := 30, At := 5 } : Token), ({ Kind := 3, Text := [59], N := 0, At := 7 } : Token)]))), (8, (.sl 4 (List.map rToken r2.1))), (11, (.sl 4 (List.map rToken r3.1))), (17, (.sl 4 (List.map rToken r5.1))), (20, (.str r6.1)), (22, (.sl 4 (List.map rToken r7.1))), (24, (.int .i64 r7.2.2)), (26, (.int .i64 r8.2)), (114, (.bool ((((((((((r.2.1 != 0) || (r.2.2 != 0)) || (r1.2.2 != 70)) || (r1.2.1 != 0)) || (r2.2.2 != 0)) || (r3.2.2 != 0)) || (r4.2.2 != 70)) || (r4.2.1 != 2)) || (r5.2.2 != 0)) || (r6.2 != 0))))] (.cons rfl (.cons rfl (.cons rfl (.cons rfl (.cons rfl (.cons rfl (.cons rfl (.cons rfl (.cons rfl (.cons (or_t hb17) .nil)))))))))) hJ8
                  · refine wo_valg (tj := 111) (.int .i64 r6.2) rfl (congrArg AV.bool hb17) rfl pv_move ?_
                    refine wo_valg (tj := 111) (.bool (r6.2 != 0)) rfl (congrArg AV.bool hb17) rfl (pv_bin rfl rfl rfl) ?_
                    refine wo_val (.bool (r6.2 != 0)) rfl (pv_pick (t := false) (congrArg AV.bool hb17) rfl) ?_
                    exact wo_is [(1, (.sl 4 (List.map rToken r.1))), (4, (.sl 4 (List.map rToken [({ Kind := 1, Text := [101, 97, 114, 110], N := 0, At := 0 } : Token), ({ Kind := 2, Text := [], N := 30, At := 5 } : Token), ({ Kind := 3, Text := [59], N := 0, At := 7 } : Token)]))), (8, (.sl 4 (List.map rToken r2.1))), (11, (.sl 4 (List.map rToken r3.1))), (17, (.sl 4 (List.map rToken r5.1))), (20, (.str r6.1)), (22, (.sl 4 (List.map rToken r7.1))), (24, (.int .i64 r7.2.2)), (26, (.int .i64 r8.2)), (114, (.bool ((((((((((r.2.1 != 0) || (r.2.2 != 0)) || (r1.2.2 != 70)) || (r1.2.1 != 0)) || (r2.2.2 != 0)) || (r3.2.2 != 0)) || (r4.2.2 != 70)) || (r4.2.1 != 2)) || (r5.2.2 != 0)) || (r6.2 != 0))))] (.cons rfl (.cons rfl (.cons rfl (.cons rfl (.cons rfl (.cons rfl (.cons rfl (.cons rfl (.cons rfl (.cons (or_f hb17) .nil)))))))))) hJ8
                · refine wo_not (tj := 107) (b := true) rfl (congrArg AV.bool hb15) rfl rfl ?_
                  refine wo_not (tj := 107) (b := true) rfl (congrArg AV.bool hb15) rfl rfl ?_
                  refine wo_val (.bool true) rfl (pv_pick (t := true) (congrArg AV.bool hb15) rfl) ?_
                  exact wo_is [(1, (.sl 4 (List.map rToken r.1))), (4, (.sl 4 (List.map rToken [({ Kind := 1, Text := [101, 97, 114, 110], N := 0, At := 0 } : Token), ({ Kind := 2, Text := [], N := 30, At := 5 } : Token), ({ Kind := 3, Text := [59], N := 0, At := 7 } : Token)]))), (8, (.sl 4 (List.map rToken r2.1))), (11, (.sl 4 (List.map rToken r3.1))), (17, (.sl 4 (List.map rToken r5.1))), (20, (.str r6.1)), (21, (.int .i64 r6.2)), (22, (.sl 4 (List.map rToken r7.1))), (24, (.int .i64 r7.2.2)), (26, (.int .i64 r8.2)), (110, (.bool (((((((((r.2.1 != 0) || (r.2.2 != 0)) || (r1.2.2 != 70)) || (r1.2.1 != 0)) || (r2.2.2 != 0)) || (r3.2.2 != 0)) || (r4.2.2 != 70)) || (r4.2.1 != 2)) || (r5.2.2 != 0))))] (.cons rfl (.cons rfl (.cons rfl (.cons rfl (.cons rfl (.cons rfl (.cons rfl (.cons rfl (.cons rfl (.cons rfl (.cons (or_t hb15) .nil))))))))))) hJ7
                · refine wo_valg (tj := 107) (.int .i64 r5.2.2) rfl (congrArg AV.bool hb15) rfl pv_move ?_
                  refine wo_valg (tj := 107) (.bool (r5.2.2 != 0)) rfl (congrArg AV.bool hb15) rfl (pv_bin rfl rfl rfl) ?_
                  refine wo_val (.bool (r5.2.2 != 0)) rfl (pv_pick (t := false) (congrArg AV.bool hb15) rfl) ?_
                  exact wo_is [(1, (.sl 4 (List.map rToken r.1))), (4, (.sl 4 (List.map rToken [({ Kind := 1, Text := [101, 97, 114, 110], N := 0, At := 0 } : Token), ({ Kind := 2, Text := [], N := 30, At := 5 } : Token), ({ Kind := 3, Text := [59], N := 0, At := 7 } : Token)]))), (8, (.sl 4 (List.map rToken r2.1))), (11, (.sl 4 (List.map rToken r3.1))), (17, (.sl 4 (List.map rToken r5.1))), (20, (.str r6.1)), (21, (.int .i64 r6.2)), (22, (.sl 4 (List.map rToken r7.1))), (24, (.int .i64 r7.2.2)), (26, (.int .i64 r8.2)), (110, (.bool (((((((((r.2.1 != 0) || (r.2.2 != 0)) || (r1.2.2 != 70)) || (r1.2.1 != 0)) || (r2.2.2 != 0)) || (r3.2.2 != 0)) || (r4.2.2 != 70)) || (r4.2.1 != 2)) || (r5.2.2 != 0))))] (.cons rfl (.cons rfl (.cons rfl (.cons rfl (.cons rfl (.cons rfl (.cons rfl (.cons rfl (.cons rfl (.cons rfl (.cons (or_f hb15) .nil))))))))))) hJ7
              · refine wo_not (tj := 103) (b := true) rfl (congrArg AV.bool hb13) rfl rfl ?_
                refine wo_not (tj := 103) (b := true) rfl (congrArg AV.bool hb13) rfl rfl ?_
                refine wo_val (.bool true) rfl (pv_pick (t := true) (congrArg AV.bool hb13) rfl) ?_
                exact wo_is [(1, (.sl 4 (List.map rToken r.1))), (4, (.sl 4 (List.map rToken [({ Kind := 1, Text := [101, 97, 114, 110], N := 0, At := 0 } : Token), ({ Kind := 2, Text := [], N := 30, At := 5 } : Token), ({ Kind := 3, Text := [59], N := 0, At := 7 } : Token)]))), (8, (.sl 4 (List.map rToken r2.1))), (11, (.sl 4 (List.map rToken r3.1))), (17, (.sl 4 (List.map rToken r5.1))), (19, (.int .i64 r5.2.2)), (20, (.str r6.1)), (21, (.int .i64 r6.2)), (22, (.sl 4 (List.map rToken r7.1))), (24, (.int .i64 r7.2.2)), (26, (.int .i64 r8.2)), (106, (.bool ((((((((r.2.1 != 0) || (r.2.2 != 0)) || (r1.2.2 != 70)) || (r1.2.1 != 0)) || (r2.2.2 != 0)) || (r3.2.2 != 0)) || (r4.2.2 != 70)) || (r4.2.1 != 2))))] (.cons rfl (.cons rfl (.cons rfl (.cons rfl (.cons rfl (.cons rfl (.cons rfl (.cons rfl (.cons rfl (.cons rfl (.cons rfl (.cons (or_t hb13) .nil)))))))))))) hJ6
              · refine wo_valg (tj := 103) (.int .i64 r4.2.1) rfl (congrArg AV.bool hb13) rfl pv_move ?_
                refine wo_valg (tj := 103) (.bool (r4.2.1 != 2)) rfl (congrArg AV.bool hb13) rfl (pv_bin rfl rfl rfl) ?_
                refine wo_val (.bool (r4.2.1 != 2)) rfl (pv_pick (t := false) (congrArg AV.bool hb13) rfl) ?_
                exact wo_is [(1, (.sl 4 (List.map rToken r.1))), (4, (.sl 4 (List.map rToken [({ Kind := 1, Text := [101, 97, 114, 110], N := 0, At := 0 } : Token), ({ Kind := 2, Text := [], N := 30, At := 5 } : Token), ({ Kind := 3, Text := [59], N := 0, At := 7 } : Token)]))), (8, (.sl 4 (List.map rToken r2.1))), (11, (.sl 4 (List.map rToken r3.1))), (17, (.sl 4 (List.map rToken r5.1))), (19, (.int .i64 r5.2.2)), (20, (.str r6.1)), (21, (.int .i64 r6.2)), (22, (.sl 4 (List.map rToken r7.1))), (24, (.int .i64 r7.2.2)), (26, (.int .i64 r8.2)), (106, (.bool ((((((((r.2.1 != 0) || (r.2.2 != 0)) || (r1.2.2 != 70)) || (r1.2.1 != 0)) || (r2.2.2 != 0)) || (r3.2.2 != 0)) || (r4.2.2 != 70)) || (r4.2.1 != 2))))] (.cons rfl (.cons rfl (.cons rfl (.cons rfl (.cons rfl (.cons rfl (.cons rfl (.cons rfl (.cons rfl (.cons rfl (.cons rfl (.cons (or_f hb13) .nil)))))))))))) hJ6
            · refine wo_not (tj := 99) (b := true) rfl (congrArg AV.bool hb11) rfl rfl ?_
              refine wo_not (tj := 99) (b := true) rfl (congrArg AV.bool hb11) rfl rfl ?_
              refine wo_val (.bool true) rfl (pv_pick (t := true) (congrArg AV.bool hb11) rfl) ?_
              exact wo_is [(1, (.sl 4 (List.map rToken r.1))), (4, (.sl 4 (List.map rToken [({ Kind := 1, Text := [101, 97, 114, 110], N := 0, At := 0 } : Token), ({ Kind := 2, Text := [], N := 30, At := 5 } : Token), ({ Kind := 3, Text := [59], N := 0, At := 7 } : Token)]))), (8, (.sl 4 (List.map rToken r2.1))), (11, (.sl 4 (List.map rToken r3.1))), (15, (.int .i64 r4.2.1)), (17, (.sl 4 (List.map rToken r5.1))), (19, (.int .i64 r5.2.2)), (20, (.str r6.1)), (21, (.int .i64 r6.2)), (22, (.sl 4 (List.map rToken r7.1))), (24, (.int .i64 r7.2.2)), (26, (.int .i64 r8.2)), (102, (.bool (((((((r.2.1 != 0) || (r.2.2 != 0)) || (r1.2.2 != 70)) || (r1.2.1 != 0)) || (r2.2.2 != 0)) || (r3.2.2 != 0)) || (r4.2.2 != 70))))] (.cons rfl (.cons rfl (.cons rfl (.cons rfl (.cons rfl (.cons rfl (.cons rfl (.cons rfl (.cons rfl (.cons rfl (.cons rfl (.cons rfl (.cons (or_t hb11) .nil))))))))))))) hJ5
            · refine wo_valg (tj := 99) (.int .i64 r4.2.2) rfl (congrArg AV.bool hb11) rfl pv_move ?_
              refine wo_valg (tj := 99) (.bool (r4.2.2 != 70)) rfl (congrArg AV.bool hb11) rfl (pv_bin rfl rfl rfl) ?_
              refine wo_val (.bool (r4.2.2 != 70)) rfl (pv_pick (t := false) (congrArg AV.bool hb11) rfl) ?_
              exact wo_is [(1, (.sl 4 (List.map rToken r.1))), (4, (.sl 4 (List.map rToken [({ Kind := 1, Text := [101, 97, 114, 110], N := 0, At := 0 } : Token), ({ Kind := 2, Text := [], N := 30, At := 5 } : Token), ({ Kind := 3, Text := [59], N := 0, At := 7 } : Token)]))), (8, (.sl 4 (List.map rToken r2.1))), (11, (.sl 4 (List.map rToken r3.1))), (15, (.int .i64 r4.2.1)), (17, (.sl 4 (List.map rToken r5.1))), (19, (.int .i64 r5.2.2)), (20, (.str r6.1)), (21, (.int .i64 r6.2)), (22, (.sl 4 (List.map rToken r7.1))), (24, (.int .i64 r7.2.2)), (26, (.int .i64 r8.2)), (102, (.bool (((((((r.2.1 != 0) || (r.2.2 != 0)) || (r1.2.2 != 70)) || (r1.2.1 != 0)) || (r2.2.2 != 0)) || (r3.2.2 != 0)) || (r4.2.2 != 70))))] (.cons rfl (.cons rfl (.cons rfl (.cons rfl (.cons rfl (.cons rfl (.cons rfl (.cons rfl (.cons rfl (.cons rfl (.cons rfl (.cons rfl (.cons (or_f hb11) .nil))))))))))))) hJ5
          · refine wo_not (tj := 95) (b := true) rfl (congrArg AV.bool hb9) rfl rfl ?_
            refine wo_not (tj := 95) (b := true) rfl (congrArg AV.bool hb9) rfl rfl ?_
            refine wo_val (.bool true) rfl (pv_pick (t := true) (congrArg AV.bool hb9) rfl) ?_
            exact wo_is [(1, (.sl 4 (List.map rToken r.1))), (4, (.sl 4 (List.map rToken [({ Kind := 1, Text := [101, 97, 114, 110], N := 0, At := 0 } : Token), ({ Kind := 2, Text := [], N := 30, At := 5 } : Token), ({ Kind := 3, Text := [59], N := 0, At := 7 } : Token)]))), (8, (.sl 4 (List.map rToken r2.1))), (11, (.sl 4 (List.map rToken r3.1))), (15, (.int .i64 r4.2.1)), (16, (.int .i64 r4.2.2)), (17, (.sl 4 (List.map rToken r5.1))), (19, (.int .i64 r5.2.2)), (20, (.str r6.1)), (21, (.int .i64 r6.2)), (22, (.sl 4 (List.map rToken r7.1))), (24, (.int .i64 r7.2.2)), (26, (.int .i64 r8.2)), (98, (.bool ((((((r.2.1 != 0) || (r.2.2 != 0)) || (r1.2.2 != 70)) || (r1.2.1 != 0)) || (r2.2.2 != 0)) || (r3.2.2 != 0))))] (.cons rfl (.cons rfl (.cons rfl (.cons rfl (.cons rfl (.cons rfl (.cons rfl (.cons rfl (.cons rfl (.cons rfl (.cons rfl (.cons rfl (.cons rfl (.cons (or_t hb9) .nil)))))))))))))) hJ4
          · refine wo_valg (tj := 95) (.int .i64 r3.2.2) rfl (congrArg AV.bool hb9) rfl pv_move ?_
            refine wo_valg (tj := 95) (.bool (r3.2.2 != 0)) rfl (congrArg AV.bool hb9) rfl (pv_bin rfl rfl rfl) ?_
            refine wo_val (.bool (r3.2.2 != 0)) rfl (pv_pick (t := false) (congrArg AV.bool hb9) rfl) ?_
            exact wo_is [(1, (.sl 4 (List.map rToken r.1))), (4, (.sl 4 (List.map rToken [({ Kind := 1, Text := [101, 97, 114, 110], N := 0, At := 0 } : Token), ({ Kind := 2, Text := [], N := 30, At := 5 } : Token), ({ Kind := 3, Text := [59], N := 0, At := 7 } : Token)]))), (8, (.sl 4 (List.map rToken r2.1))), (11, (.sl 4 (List.map rToken r3.1))), (15, (.int .i64 r4.2.1)), (16, (.int .i64 r4.2.2)), (17, (.sl 4 (List.map rToken r5.1))), (19, (.int .i64 r5.2.2)), (20, (.str r6.1)), (21, (.int .i64 r6.2)), (22, (.sl 4 (List.map rToken r7.1))), (24, (.int .i64 r7.2.2)), (26, (.int .i64 r8.2)), (98, (.bool ((((((r.2.1 != 0) || (r.2.2 != 0)) || (r1.2.2 != 70)) || (r1.2.1 != 0)) || (r2.2.2 != 0)) || (r3.2.2 != 0))))] (.cons rfl (.cons rfl (.cons rfl (.cons rfl (.cons rfl (.cons rfl (.cons rfl (.cons rfl (.cons rfl (.cons rfl (.cons rfl (.cons rfl (.cons rfl (.cons (or_f hb9) .nil)))))))))))))) hJ4
        · refine wo_not (tj := 91) (b := true) rfl (congrArg AV.bool hb7) rfl rfl ?_
          refine wo_not (tj := 91) (b := true) rfl (congrArg AV.bool hb7) rfl rfl ?_
          refine wo_val (.bool true) rfl (pv_pick (t := true) (congrArg AV.bool hb7) rfl) ?_
          exact wo_is [(1, (.sl 4 (List.map rToken r.1))), (4, (.sl 4 (List.map rToken [({ Kind := 1, Text := [101, 97, 114, 110], N := 0, At := 0 } : Token), ({ Kind := 2, Text := [], N := 30, At := 5 } : Token), ({ Kind := 3, Text := [59], N := 0, At := 7 } : Token)]))), (8, (.sl 4 (List.map rToken r2.1))), (11, (.sl 4 (List.map rToken r3.1))), (13, (.int .i64 r3.2.2)), (15, (.int .i64 r4.2.1)), (16, (.int .i64 r4.2.2)), (17, (.sl 4 (List.map rToken r5.1))), (19, (.int .i64 r5.2.2)), (20, (.str r6.1)), (21, (.int .i64 r6.2)), (22, (.sl 4 (List.map rToken r7.1))), (24, (.int .i64 r7.2.2)), (26, (.int .i64 r8.2)), (94, (.bool (((((r.2.1 != 0) || (r.2.2 != 0)) || (r1.2.2 != 70)) || (r1.2.1 != 0)) || (r2.2.2 != 0))))] (.cons rfl (.cons rfl (.cons rfl (.cons rfl (.cons rfl (.cons rfl (.cons rfl (.cons rfl (.cons rfl (.cons rfl (.cons rfl (.cons rfl (.cons rfl (.cons rfl (.cons (or_t hb7) .nil))))))))))))))) hJ3
        · refine wo_valg (tj := 91) (.int .i64 r2.2.2) rfl (congrArg AV.bool hb7) rfl pv_move ?_
          refine wo_valg (tj := 91) (.bool (r2.2.2 != 0)) rfl (congrArg AV.bool hb7) rfl (pv_bin rfl rfl rfl) ?_
          refine wo_val (.bool (r2.2.2 != 0)) rfl (pv_pick (t := false) (congrArg AV.bool hb7) rfl) ?_
          exact wo_is [(1, (.sl 4 (List.map rToken r.1))), (4, (.sl 4 (List.map rToken [({ Kind := 1, Text := [101, 97, 114, 110], N := 0, At := 0 } : Token), ({ Kind := 2, Text := [], N := 30, At := 5 } : Token), ({ Kind := 3, Text := [59], N := 0, At := 7 } : Token)]))), (8, (.sl 4 (List.map rToken r2.1))), (11, (.sl 4 (List.map rToken r3.1))), (13, (.int .i64 r3.2.2)), (15, (.int .i64 r4.2.1)), (16, (.int .i64 r4.2.2)), (17, (.sl 4 (List.map rToken r5.1))), (19, (.int .i64 r5.2.2)), (20, (.str r6.1)), (21, (.int .i64 r6.2)), (22, (.sl 4 (List.map rToken r7.1))), (24, (.int .i64 r7.2.2)), (26, (.int .i64 r8.2)), (94, (.bool (((((r.2.1 != 0) || (r.2.2 != 0)) || (r1.2.2 != 70)) || (r1.2.1 != 0)) || (r2.2.2 != 0))))] (.cons rfl (.cons rfl (.cons rfl (.cons rfl (.cons rfl (.cons rfl (.cons rfl (.cons rfl (.cons rfl (.cons rfl (.cons rfl (.cons rfl (.cons rfl (.cons rfl (.cons (or_f hb7) .nil))))))))))))))) hJ3
      · refine wo_not (tj := 87) (b := true) rfl (congrArg AV.bool hb5) rfl rfl ?_
        refine wo_not (tj := 87) (b := true) rfl (congrArg AV.bool hb5) rfl rfl ?_
        refine wo_val (.bool true) rfl (pv_pick (t := true) (congrArg AV.bool hb5) rfl) ?_
        exact wo_is [(1, (.sl 4 (List.map rToken r.1))), (4, (.sl 4 (List.map rToken [({ Kind := 1, Text := [101, 97, 114, 110], N := 0, At := 0 } : Token), ({ Kind := 2, Text := [], N := 30, At := 5 } : Token), ({ Kind := 3, Text := [59], N := 0, At := 7 } : Token)]))), (8, (.sl 4 (List.map rToken r2.1))), (10, (.int .i64 r2.2.2)), (11, (.sl 4 (List.map rToken r3.1))), (13, (.int .i64 r3.2.2)), (15, (.int .i64 r4.2.1)), (16, (.int .i64 r4.2.2)), (17, (.sl 4 (List.map rToken r5.1))), (19, (.int .i64 r5.2.2)), (20, (.str r6.1)), (21, (.int .i64 r6.2)), (22, (.sl 4 (List.map rToken r7.1))), (24, (.int .i64 r7.2.2)), (26, (.int .i64 r8.2)), (90, (.bool ((((r.2.1 != 0) || (r.2.2 != 0)) || (r1.2.2 != 70)) || (r1.2.1 != 0))))] (.cons rfl (.cons rfl (.cons rfl (.cons rfl (.cons rfl (.cons rfl (.cons rfl (.cons rfl (.cons rfl (.cons rfl (.cons rfl (.cons rfl (.cons rfl (.cons rfl (.cons rfl (.cons (or_t hb5) .nil)))))))))))))))) hJ2
      · refine wo_valg (tj := 87) (.int .i64 r1.2.1) rfl (congrArg AV.bool hb5) rfl pv_move ?_
        refine wo_valg (tj := 87) (.bool (r1.2.1 != 0)) rfl (congrArg AV.bool hb5) rfl (pv_bin rfl rfl rfl) ?_
        refine wo_val (.bool (r1.2.1 != 0)) rfl (pv_pick (t := false) (congrArg AV.bool hb5) rfl) ?_
        exact wo_is [(1, (.sl 4 (List.map rToken r.1))), (4, (.sl 4 (List.map rToken [({ Kind := 1, Text := [101, 97, 114, 110], N := 0, At := 0 } : Token), ({ Kind := 2, Text := [], N := 30, At := 5 } : Token), ({ Kind := 3, Text := [59], N := 0, At := 7 } : Token)]))), (8, (.sl 4 (List.map rToken r2.1))), (10, (.int .i64 r2.2.2)), (11, (.sl 4 (List.map rToken r3.1))), (13, (.int .i64 r3.2.2)), (15, (.int .i64 r4.2.1)), (16, (.int .i64 r4.2.2)), (17, (.sl 4 (List.map rToken r5.1))), (19, (.int .i64 r5.2.2)), (20, (.str r6.1)), (21, (.int .i64 r6.2)), (22, (.sl 4 (List.map rToken r7.1))), (24, (.int .i64 r7.2.2)), (26, (.int .i64 r8.2)), (90, (.bool ((((r.2.1 != 0) || (r.2.2 != 0)) || (r1.2.2 != 70)) || (r1.2.1 != 0))))] (.cons rfl (.cons rfl (.cons rfl (.cons rfl (.cons rfl (.cons rfl (.cons rfl (.cons rfl (.cons rfl (.cons rfl (.cons rfl (.cons rfl (.cons rfl (.cons rfl (.cons rfl (.cons (or_f hb5) .nil)))))))))))))))) hJ2
    · refine wo_not (tj := 83) (b := true) rfl (congrArg AV.bool hb3) rfl rfl ?_
      refine wo_not (tj := 83) (b := true) rfl (congrArg AV.bool hb3) rfl rfl ?_
      refine wo_val (.bool true) rfl (pv_pick (t := true) (congrArg AV.bool hb3) rfl) ?_
      exact wo_is [(1, (.sl 4 (List.map rToken r.1))), (4, (.sl 4 (List.map rToken [({ Kind := 1, Text := [101, 97, 114, 110], N := 0, At := 0 } : Token), ({ Kind := 2, Text := [], N := 30, At := 5 } : Token), ({ Kind := 3, Text := [59], N := 0, At := 7 } : Token)]))), (6, (.int .i64 r1.2.1)), (8, (.sl 4 (List.map rToken r2.1))), (10, (.int .i64 r2.2.2)), (11, (.sl 4 (List.map rToken r3.1))), (13, (.int .i64 r3.2.2)), (15, (.int .i64 r4.2.1)), (16, (.int .i64 r4.2.2)), (17, (.sl 4 (List.map rToken r5.1))), (19, (.int .i64 r5.2.2)), (20, (.str r6.1)), (21, (.int .i64 r6.2)), (22, (.sl 4 (List.map rToken r7.1))), (24, (.int .i64 r7.2.2)), (26, (.int .i64 r8.2)), (86, (.bool (((r.2.1 != 0) || (r.2.2 != 0)) || (r1.2.2 != 70))))] (.cons rfl (.cons rfl (.cons rfl (.cons rfl (.cons rfl (.cons rfl (.cons rfl (.cons rfl (.cons rfl (.cons rfl (.cons rfl (.cons rfl (.cons rfl (.cons rfl (.cons rfl (.cons rfl (.cons (or_t hb3) .nil))))))))))))))))) hJ1
    · refine wo_valg (tj := 83) (.int .i64 r1.2.2) rfl (congrArg AV.bool hb3) rfl pv_move ?_
      refine wo_valg (tj := 83) (.bool (r1.2.2 != 70)) rfl (congrArg AV.bool hb3) rfl (pv_bin rfl rfl rfl) ?_
      refine wo_val (.bool (r1.2.2 != 70)) rfl (pv_pick (t := false) (congrArg AV.bool hb3) rfl) ?_
      exact wo_is [(1, (.sl 4 (List.map rToken r.1))), (4, (.sl 4 (List.map rToken [({ Kind := 1, Text := [101, 97, 114, 110], N := 0, At := 0 } : Token), ({ Kind := 2, Text := [], N := 30, At := 5 } : Token), ({ Kind := 3, Text := [59], N := 0, At := 7 } : Token)]))), (6, (.int .i64 r1.2.1)), (8, (.sl 4 (List.map rToken r2.1))), (10, (.int .i64 r2.2.2)), (11, (.sl 4 (List.map rToken r3.1))), (13, (.int .i64 r3.2.2)), (15, (.int .i64 r4.2.1)), (16, (.int .i64 r4.2.2)), (17, (.sl 4 (List.map rToken r5.1))), (19, (.int .i64 r5.2.2)), (20, (.str r6.1)), (21, (.int .i64 r6.2)), (22, (.sl 4 (List.map rToken r7.1))), (24, (.int .i64 r7.2.2)), (26, (.int .i64 r8.2)), (86, (.bool (((r.2.1 != 0) || (r.2.2 != 0)) || (r1.2.2 != 70))))] (.cons rfl (.cons rfl (.cons rfl (.cons rfl (.cons rfl (.cons rfl (.cons rfl (.cons rfl (.cons rfl (.cons rfl (.cons rfl (.cons rfl (.cons rfl (.cons rfl (.cons rfl (.cons rfl (.cons (or_f hb3) .nil))))))))))))))))) hJ1
  · refine wo_not (tj := 79) (b := true) rfl (congrArg AV.bool hb1) rfl rfl ?_
    refine wo_not (tj := 79) (b := true) rfl (congrArg AV.bool hb1) rfl rfl ?_
    refine wo_val (.bool true) rfl (pv_pick (t := true) (congrArg AV.bool hb1) rfl) ?_
    exact wo_is [(1, (.sl 4 (List.map rToken r.1))), (4, (.sl 4 (List.map rToken [({ Kind := 1, Text := [101, 97, 114, 110], N := 0, At := 0 } : Token), ({ Kind := 2, Text := [], N := 30, At := 5 } : Token), ({ Kind := 3, Text := [59], N := 0, At := 7 } : Token)]))), (6, (.int .i64 r1.2.1)), (7, (.int .i64 r1.2.2)), (8, (.sl 4 (List.map rToken r2.1))), (10, (.int .i64 r2.2.2)), (11, (.sl 4 (List.map rToken r3.1))), (13, (.int .i64 r3.2.2)), (15, (.int .i64 r4.2.1)), (16, (.int .i64 r4.2.2)), (17, (.sl 4 (List.map rToken r5.1))), (19, (.int .i64 r5.2.2)), (20, (.str r6.1)), (21, (.int .i64 r6.2)), (22, (.sl 4 (List.map rToken r7.1))), (24, (.int .i64 r7.2.2)), (26, (.int .i64 r8.2)), (82, (.bool ((r.2.1 != 0) || (r.2.2 != 0))))] (.cons rfl (.cons rfl (.cons rfl (.cons rfl (.cons rfl (.cons rfl (.cons rfl (.cons rfl (.cons rfl (.cons rfl (.cons rfl (.cons rfl (.cons rfl (.cons rfl (.cons rfl (.cons rfl (.cons rfl (.cons (or_t hb1) .nil)))))))))))))))))) hJ
  · refine wo_valg (tj := 79) (.int .i64 r.2.2) rfl (congrArg AV.bool hb1) rfl pv_move ?_
    refine wo_valg (tj := 79) (.bool (r.2.2 != 0)) rfl (congrArg AV.bool hb1) rfl (pv_bin rfl rfl rfl) ?_
    refine wo_val (.bool (r.2.2 != 0)) rfl (pv_pick (t := false) (congrArg AV.bool hb1) rfl) ?_
    exact wo_is [(1, (.sl 4 (List.map rToken r.1))), (4, (.sl 4 (List.map rToken [({ Kind := 1, Text := [101, 97, 114, 110], N := 0, At := 0 } : Token), ({ Kind := 2, Text := [], N := 30, At := 5 } : Token), ({ Kind := 3, Text := [59], N := 0, At := 7 } : Token)]))), (6, (.int .i64 r1.2.1)), (7, (.int .i64 r1.2.2)), (8, (.sl 4 (List.map rToken r2.1))), (10, (.int .i64 r2.2.2)), (11, (.sl 4 (List.map rToken r3.1))), (13, (.int .i64 r3.2.2)), (15, (.int .i64 r4.2.1)), (16, (.int .i64 r4.2.2)), (17, (.sl 4 (List.map rToken r5.1))), (19, (.int .i64 r5.2.2)), (20, (.str r6.1)), (21, (.int .i64 r6.2)), (22, (.sl 4 (List.map rToken r7.1))), (24, (.int .i64 r7.2.2)), (26, (.int .i64 r8.2)), (82, (.bool ((r.2.1 != 0) || (r.2.2 != 0))))] (.cons rfl (.cons rfl (.cons rfl (.cons rfl (.cons rfl (.cons rfl (.cons rfl (.cons rfl (.cons rfl (.cons rfl (.cons rfl (.cons rfl (.cons rfl (.cons rfl (.cons rfl (.cons rfl (.cons rfl (.cons (or_f hb1) .nil)))))))))))))))))) hJ

theorem cp_ref07_Space (c : Int) : CP Tryd.prog 22 [(.int .u8 c)] (ref07_Space c) (fun (x : Bool) => (AV.bool x)) := by
  refine cp_intro (n := 17) 0 Tryd.func22 rfl (by decide) rfl rfl fun h0 ids hI => ?_
  refine wr_in (wr_mod (ref07_Space.eq_1 _) ?_)
  refine wr_seq ?_
  refine wr_region ?_
  refine wo_val (.bool false) rfl pv_assign ?_
  refine wo_nil ?_
  refine wr_seq ?_
  refine wr_region ?_
  refine wo_val (.int .u8 c) rfl pv_move ?_
  refine wo_val (.bool (c == 32)) rfl (pv_bin rfl rfl rfl) ?_
  refine wo_val (.bool (c == 32)) rfl pv_move ?_
  refine wo_meet 3 [(0, (.int .u8 c)), (8, (.bool ((c == 32) || (c == 9))))] ?_ fun hJ => wo_cases (c == 32) (fun hb1 => ?_) (fun hb1 => ?_)
  · refine wo_val (.bool ((c == 32) || (c == 9))) rfl pv_move ?_
    refine wo_meet 3 [(0, (.int .u8 c)), (12, (.bool (((c == 32) || (c == 9)) || (c == 10))))] ?_ fun hJ1 => wo_cases ((c == 32) || (c == 9)) (fun hb3 => ?_) (fun hb3 => ?_)
    · refine wo_val (.bool (((c == 32) || (c == 9)) || (c == 10))) rfl pv_move ?_
      refine wo_meet 3 [(16, (.bool ((((c == 32) || (c == 9)) || (c == 10)) || (c == 13))))] ?_ fun hJ2 => wo_cases (((c == 32) || (c == 9)) || (c == 10)) (fun hb5 => ?_) (fun hb5 => ?_)
      · refine wo_val (.bool ((((c == 32) || (c == 9)) || (c == 10)) || (c == 13))) rfl pv_assign ?_
        refine wo_nil ?_
        exact wr_ret (a := ((((c == 32) || (c == 9)) || (c == 10)) || (c == 13))) (vs := [(.bool ((((c == 32) || (c == 9)) || (c == 10)) || (c == 13)))]) Tryd.func22 hI rfl (.same _)
      · refine wo_not (tj := 13) (b := true) rfl (congrArg AV.bool hb5) rfl rfl ?_
        refine wo_not (tj := 13) (b := true) rfl (congrArg AV.bool hb5) rfl rfl ?_
        refine wo_val (.bool true) rfl (pv_pick (t := true) (congrArg AV.bool hb5) rfl) ?_
        exact wo_is [(16, (.bool ((((c == 32) || (c == 9)) || (c == 10)) || (c == 13))))] (.cons (or_t hb5) .nil) hJ2
      · refine wo_valg (tj := 13) (.int .u8 c) rfl (congrArg AV.bool hb5) rfl pv_move ?_
        refine wo_valg (tj := 13) (.bool (c == 13)) rfl (congrArg AV.bool hb5) rfl (pv_bin rfl rfl rfl) ?_
        refine wo_val (.bool (c == 13)) rfl (pv_pick (t := false) (congrArg AV.bool hb5) rfl) ?_
        exact wo_is [(16, (.bool ((((c == 32) || (c == 9)) || (c == 10)) || (c == 13))))] (.cons (or_f hb5) .nil) hJ2
    · refine wo_not (tj := 9) (b := true) rfl (congrArg AV.bool hb3) rfl rfl ?_
      refine wo_not (tj := 9) (b := true) rfl (congrArg AV.bool hb3) rfl rfl ?_
      refine wo_val (.bool true) rfl (pv_pick (t := true) (congrArg AV.bool hb3) rfl) ?_
      exact wo_is [(0, (.int .u8 c)), (12, (.bool (((c == 32) || (c == 9)) || (c == 10))))] (.cons rfl (.cons (or_t hb3) .nil)) hJ1
    · refine wo_valg (tj := 9) (.int .u8 c) rfl (congrArg AV.bool hb3) rfl pv_move ?_
      refine wo_valg (tj := 9) (.bool (c == 10)) rfl (congrArg AV.bool hb3) rfl (pv_bin rfl rfl rfl) ?_
      refine wo_val (.bool (c == 10)) rfl (pv_pick (t := false) (congrArg AV.bool hb3) rfl) ?_
      exact wo_is [(0, (.int .u8 c)), (12, (.bool (((c == 32) || (c == 9)) || (c == 10))))] (.cons rfl (.cons (or_f hb3) .nil)) hJ1
  · refine wo_not (tj := 5) (b := true) rfl (congrArg AV.bool hb1) rfl rfl ?_
    refine wo_not (tj := 5) (b := true) rfl (congrArg AV.bool hb1) rfl rfl ?_
    refine wo_val (.bool true) rfl (pv_pick (t := true) (congrArg AV.bool hb1) rfl) ?_
    exact wo_is [(0, (.int .u8 c)), (8, (.bool ((c == 32) || (c == 9))))] (.cons rfl (.cons (or_t hb1) .nil)) hJ
  · refine wo_valg (tj := 5) (.int .u8 c) rfl (congrArg AV.bool hb1) rfl pv_move ?_
    refine wo_valg (tj := 5) (.bool (c == 9)) rfl (congrArg AV.bool hb1) rfl (pv_bin rfl rfl rfl) ?_
    refine wo_val (.bool (c == 9)) rfl (pv_pick (t := false) (congrArg AV.bool hb1) rfl) ?_
    exact wo_is [(0, (.int .u8 c)), (8, (.bool ((c == 32) || (c == 9))))] (.cons rfl (.cons (or_f hb1) .nil)) hJ

theorem cp_ref07_Letter (c : Int) : CP Tryd.prog 31 [(.int .u8 c)] (ref07_Letter c) (fun (x : Bool) => (AV.bool x)) := by
  refine cp_intro (n := 17) 0 Tryd.func31 rfl (by decide) rfl rfl fun h0 ids hI => ?_
  refine wr_in (wr_mod (ref07_Letter.eq_1 _) ?_)
  refine wr_seq ?_
  refine wr_region ?_
  refine wo_val (.bool false) rfl pv_assign ?_
  refine wo_nil ?_
  refine wr_seq ?_
  refine wr_region ?_
  refine wo_val (.int .u8 c) rfl pv_move ?_
  refine wo_val (.bool (decide (c ≥ 97))) rfl (pv_bin rfl rfl rfl) ?_
  refine wo_val (.bool (decide (c ≥ 97))) rfl pv_move ?_
  refine wo_meet 3 [(0, (.int .u8 c)), (8, (.bool ((decide (c ≥ 97)) && (decide (c ≤ 122)))))] ?_ fun hJ => wo_cases (decide (c ≥ 97)) (fun hb1 => ?_) (fun hb1 => ?_)
  · refine wo_val (.bool ((decide (c ≥ 97)) && (decide (c ≤ 122)))) rfl pv_move ?_
    refine wo_meet 7 [(16, (.bool (((decide (c ≥ 97)) && (decide (c ≤ 122))) || ((decide (c ≥ 65)) && (decide (c ≤ 90))))))] ?_ fun hJ1 => wo_cases ((decide (c ≥ 97)) && (decide (c ≤ 122))) (fun hb3 => ?_) (fun hb3 => ?_)
    · refine wo_val (.bool (((decide (c ≥ 97)) && (decide (c ≤ 122))) || ((decide (c ≥ 65)) && (decide (c ≤ 90))))) rfl pv_assign ?_
      refine wo_nil ?_
      exact wr_ret (a := (((decide (c ≥ 97)) && (decide (c ≤ 122))) || ((decide (c ≥ 65)) && (decide (c ≤ 90))))) (vs := [(.bool (((decide (c ≥ 97)) && (decide (c ≤ 122))) || ((decide (c ≥ 65)) && (decide (c ≤ 90)))))]) Tryd.func31 hI rfl (.same _)
    · refine wo_not (tj := 9) (b := true) rfl (congrArg AV.bool hb3) rfl rfl ?_
      refine wo_not (tj := 9) (b := true) rfl (congrArg AV.bool hb3) rfl rfl ?_
      refine wo_not (tj := 9) (b := true) rfl (congrArg AV.bool hb3) rfl rfl ?_
      refine wo_notu (tj := 12) rfl rfl rfl ?_
      refine wo_notu (tj := 12) rfl rfl rfl ?_
      refine wo_not (tj := 9) (b := true) rfl (congrArg AV.bool hb3) rfl rfl ?_
      refine wo_val (.bool true) rfl (pv_pick (t := true) (congrArg AV.bool hb3) rfl) ?_
      exact wo_is [(16, (.bool (((decide (c ≥ 97)) && (decide (c ≤ 122))) || ((decide (c ≥ 65)) && (decide (c ≤ 90))))))] (.cons (or_t hb3) .nil) hJ1
    · refine wo_valg (tj := 9) (.int .u8 c) rfl (congrArg AV.bool hb3) rfl pv_move ?_
      refine wo_valg (tj := 9) (.bool (decide (c ≥ 65))) rfl (congrArg AV.bool hb3) rfl (pv_bin rfl rfl rfl) ?_
      refine wo_valg (tj := 9) (.bool (decide (c ≥ 65))) rfl (congrArg AV.bool hb3) rfl pv_move ?_
      refine wo_meet 3 [(9, (.bool ((decide (c ≥ 97)) && (decide (c ≤ 122))))), (15, (.bool ((decide (c ≥ 65)) && (decide (c ≤ 90)))))] ?_ fun hJ2 => wo_cases (decide (c ≥ 65)) (fun hb5 => ?_) (fun hb5 => ?_)
      · refine wo_val (.bool ((decide (c ≥ 65)) && (decide (c ≤ 90)))) rfl (pv_pick (t := false) (congrArg AV.bool hb3) rfl) ?_
        exact wo_is [(16, (.bool (((decide (c ≥ 97)) && (decide (c ≤ 122))) || ((decide (c ≥ 65)) && (decide (c ≤ 90))))))] (.cons (or_f hb3) .nil) hJ1
      · refine wo_valg (tj := 12) (.int .u8 c) rfl (congrArg AV.bool hb5) rfl pv_move ?_
        refine wo_valg (tj := 12) (.bool (decide (c ≤ 90))) rfl (congrArg AV.bool hb5) rfl (pv_bin rfl rfl rfl) ?_
        refine wo_valg (tj := 9) (.bool (decide (c ≤ 90))) rfl (congrArg AV.bool hb3) rfl (pv_pick (t := true) (congrArg AV.bool hb5) rfl) ?_
        exact wo_is [(9, (.bool ((decide (c ≥ 97)) && (decide (c ≤ 122))))), (15, (.bool ((decide (c ≥ 65)) && (decide (c ≤ 90)))))] (.cons rfl (.cons (and_t hb5) .nil)) hJ2
      · refine wo_not (tj := 12) (b := false) rfl (congrArg AV.bool hb5) rfl rfl ?_
        refine wo_not (tj := 12) (b := false) rfl (congrArg AV.bool hb5) rfl rfl ?_
        refine wo_valg (tj := 9) (.bool false) rfl (congrArg AV.bool hb3) rfl (pv_pick (t := false) (congrArg AV.bool hb5) rfl) ?_
        exact wo_is [(9, (.bool ((decide (c ≥ 97)) && (decide (c ≤ 122))))), (15, (.bool ((decide (c ≥ 65)) && (decide (c ≤ 90)))))] (.cons rfl (.cons (and_f hb5) .nil)) hJ2
  · refine wo_valg (tj := 5) (.int .u8 c) rfl (congrArg AV.bool hb1) rfl pv_move ?_
    refine wo_valg (tj := 5) (.bool (decide (c ≤ 122))) rfl (congrArg AV.bool hb1) rfl (pv_bin rfl rfl rfl) ?_
    refine wo_val (.bool (decide (c ≤ 122))) rfl (pv_pick (t := true) (congrArg AV.bool hb1) rfl) ?_
    exact wo_is [(0, (.int .u8 c)), (8, (.bool ((decide (c ≥ 97)) && (decide (c ≤ 122)))))] (.cons rfl (.cons (and_t hb1) .nil)) hJ
  · refine wo_not (tj := 5) (b := false) rfl (congrArg AV.bool hb1) rfl rfl ?_
    refine wo_not (tj := 5) (b := false) rfl (congrArg AV.bool hb1) rfl rfl ?_
    refine wo_val (.bool false) rfl (pv_pick (t := false) (congrArg AV.bool hb1) rfl) ?_
    exact wo_is [(0, (.int .u8 c)), (8, (.bool ((decide (c ≥ 97)) && (decide (c ≤ 122)))))] (.cons rfl (.cons (and_f hb1) .nil)) hJ
end Go.Am

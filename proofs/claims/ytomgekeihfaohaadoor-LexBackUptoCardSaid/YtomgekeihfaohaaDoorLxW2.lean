/- The models hold of the program. Written by dc.py. -/
import Derived.Test.YtomgekeihfaohaaDoorLxW1
namespace Go.Am
open Go Go.Proofs
set_option maxRecDepth 100000
set_option linter.unusedSimpArgs false
set_option linter.unusedVariables false
theorem cp_law07_LexWrong (src : Str) (more : Str) : CP Tryd.prog 9 [(.str src), (.str more)] (law07_LexWrong src more) (fun (x : Bool) => (AV.bool x)) := by
  refine cp_intro (n := 95) 0 Tryd.func9 rfl (by decide) rfl rfl fun h0 ids hI => ?_
  refine wr_in (wr_mod (law07_LexWrong.eq_1 _ _) ?_)
  refine wr_seq ?_
  refine wr_region ?_
  refine wo_val (.bool false) rfl pv_assign ?_
  refine wo_nil ?_
  refine wr_seq ?_
  refine wr_seq ?_
  refine wr_region ?_
  refine of_call [] rfl rfl rfl rfl ((cp_law07_sane) _) (fun v _ => wu_pan Tryd.func9 hI) fun r _ => ?_
  refine wo_val (.bool (!r)) rfl (pv_un rfl) ?_
  refine wo_nil ?_
  refine wf_itebn rfl (fun hc => ?_) (fun hc => ?_)
  · refine wr_skip ?_
    refine wr_seq ?_
    refine wr_seq ?_
    refine wr_region ?_
    refine wo_val (.str src) rfl pv_move ?_
    refine wo_val (.int .i64 (src.length : Int)) rfl (pv_len (len_str ti9)) ?_
    refine wo_val (.str more) rfl pv_move ?_
    refine wo_val (.int .i64 (more.length : Int)) rfl (pv_len (len_str ti9)) ?_
    refine wo_val (.int .i64 (IntKind.wrap .i64 ((src.length : Int) + (more.length : Int)))) rfl (pv_bin rfl rfl rfl) ?_
    refine wo_val (.bool (decide ((IntKind.wrap .i64 ((src.length : Int) + (more.length : Int))) > 3000))) rfl (pv_bin rfl rfl rfl) ?_
    refine wo_nil ?_
    refine wf_ite rfl (fun hc1 => ?_) (fun hc1 => ?_)
    · refine wr_seq ?_
      refine wr_region ?_
      refine wo_val (.bool true) rfl pv_assign ?_
      refine wo_nil ?_
      exact wr_ret (a := true) (vs := [(.bool true)]) Tryd.func9 hI rfl (.same _)
    · refine wr_skip ?_
      refine wr_seq ?_
      refine wr_region ?_
      refine wo_val (.str src) rfl pv_move ?_
      refine of_call [(.str src)] rfl rfl rfl rfl ((cp_lex_Lex src) _) (fun v _ => wu_pan Tryd.func9 hI) fun r1 _ => ?_
      refine wo_val (.tup [(.sl 4 (List.map rToken r1.1)), (.int .i64 r1.2.1), (.int .i64 r1.2.2)]) rfl pv_move ?_
      refine wo_val (.sl 4 (List.map rToken r1.1)) rfl (pv_ext rfl) ?_
      refine wo_val (.int .i64 r1.2.1) rfl (pv_ext rfl) ?_
      refine wo_val (.int .i64 r1.2.2) rfl (pv_ext rfl) ?_
      refine wo_val (.sl 4 (List.map rToken r1.1)) rfl pv_assign ?_
      refine wo_val (.int .i64 r1.2.1) rfl pv_assign ?_
      refine wo_val (.int .i64 r1.2.2) rfl pv_assign ?_
      refine wo_nil ?_
      refine wr_seq ?_
      refine wr_seq ?_
      refine wr_region ?_
      refine wo_val (.int .i64 r1.2.2) rfl pv_move ?_
      refine wo_val (.bool (r1.2.2 == 0)) rfl (pv_bin rfl rfl rfl) ?_
      refine wo_nil ?_
      refine wf_iteb rfl (fun hc2 => ?_) (fun hc2 => ?_)
      · refine wr_seq ?_
        refine wr_region ?_
        refine wo_val (.int .i64 r1.2.1) rfl pv_move ?_
        refine wo_val (.bool (r1.2.1 == 0)) rfl (pv_bin rfl rfl rfl) ?_
        refine wo_val (.bool (r1.2.1 == 0)) rfl pv_assign ?_
        refine wo_nil ?_
        exact wr_ret (a := (r1.2.1 == 0)) (vs := [(.bool (r1.2.1 == 0))]) Tryd.func9 hI rfl (.same _)
      · refine wr_skip ?_
        refine wr_seq ?_
        refine wr_seq ?_
        refine wr_region ?_
        refine wo_val (.int .i64 r1.2.2) rfl pv_move ?_
        refine wo_val (.bool (r1.2.2 != 70)) rfl (pv_bin rfl rfl rfl) ?_
        refine wo_val (.bool (r1.2.2 != 70)) rfl pv_move ?_
        refine wo_meet 3 [(0, (.str src)), (1, (.str more)), (6, (.int .i64 r1.2.1)), (40, (.bool ((r1.2.2 != 70) || (decide (r1.2.1 < 0)))))] ?_ fun hJ => wo_cases (r1.2.2 != 70) (fun hb1 => ?_) (fun hb1 => ?_)
        · refine wo_val (.bool ((r1.2.2 != 70) || (decide (r1.2.1 < 0)))) rfl pv_move ?_
          refine wo_meet 5 [(0, (.str src)), (1, (.str more)), (6, (.int .i64 r1.2.1)), (46, (.bool (((r1.2.2 != 70) || (decide (r1.2.1 < 0))) || (decide (r1.2.1 ≥ (src.length : Int))))))] ?_ fun hJ1 => wo_cases ((r1.2.2 != 70) || (decide (r1.2.1 < 0))) (fun hb3 => ?_) (fun hb3 => ?_)
          · refine wo_nil ?_
            refine wf_iteb rfl (fun hc3 => ?_) (fun hc3 => ?_)
            · refine wr_seq ?_
              refine wr_region ?_
              refine wo_val (.bool false) rfl pv_assign ?_
              refine wo_nil ?_
              exact wr_ret (a := false) (vs := [(.bool false)]) Tryd.func9 hI rfl (.same _)
            · refine wr_skip ?_
              refine wr_seq ?_
              refine wr_region ?_
              refine wo_val (.str src) rfl pv_move ?_
              refine wo_val (.int .i64 r1.2.1) rfl pv_move ?_
              refine of_need fun hs => ?_
              refine wo_val (.str (src.take (Int.toNat r1.2.1))) rfl (pv_slice (sl_strB ti9 hs)) ?_
              refine of_call [(.str (src.take (Int.toNat r1.2.1)))] rfl rfl rfl rfl ((cp_lex_Lex (src.take (Int.toNat r1.2.1))) _) (fun v _ => wu_pan Tryd.func9 hI) fun r2 _ => ?_
              refine wo_val (.tup [(.sl 4 (List.map rToken r2.1)), (.int .i64 r2.2.1), (.int .i64 r2.2.2)]) rfl pv_move ?_
              refine wo_val (.sl 4 (List.map rToken r2.1)) rfl (pv_ext rfl) ?_
              refine wo_val (.int .i64 r2.2.1) rfl (pv_ext rfl) ?_
              refine wo_val (.int .i64 r2.2.2) rfl (pv_ext rfl) ?_
              refine wo_val (.sl 4 (List.map rToken r2.1)) rfl pv_assign ?_
              refine wo_val (.int .i64 r2.2.1) rfl pv_assign ?_
              refine wo_val (.int .i64 r2.2.2) rfl pv_assign ?_
              refine wo_nil ?_
              refine wr_seq ?_
              refine wr_region ?_
              refine wo_val (.str src) rfl pv_move ?_
              refine of_need fun hl => ?_
              refine wo_val (.str (src ++ [32])) rfl (pv_bin rfl rfl (bin_cat hl)) ?_
              refine wo_val (.str more) rfl pv_move ?_
              refine of_need fun hl1 => ?_
              refine wo_val (.str ((src ++ [32]) ++ more)) rfl (pv_bin rfl rfl (bin_cat hl1)) ?_
              refine of_call [(.str ((src ++ [32]) ++ more))] rfl rfl rfl rfl ((cp_lex_Lex ((src ++ [32]) ++ more)) _) (fun v _ => wu_pan Tryd.func9 hI) fun r3 _ => ?_
              refine wo_val (.tup [(.sl 4 (List.map rToken r3.1)), (.int .i64 r3.2.1), (.int .i64 r3.2.2)]) rfl pv_move ?_
              refine wo_val (.sl 4 (List.map rToken r3.1)) rfl (pv_ext rfl) ?_
              refine wo_val (.int .i64 r3.2.1) rfl (pv_ext rfl) ?_
              refine wo_val (.int .i64 r3.2.2) rfl (pv_ext rfl) ?_
              refine wo_val (.sl 4 (List.map rToken r3.1)) rfl pv_assign ?_
              refine wo_val (.int .i64 r3.2.1) rfl pv_assign ?_
              refine wo_val (.int .i64 r3.2.2) rfl pv_assign ?_
              refine wo_nil ?_
              refine wr_seq ?_
              refine wr_region ?_
              refine wo_val (.str src) rfl pv_move ?_
              refine wo_val (.int .i64 r1.2.1) rfl pv_move ?_
              refine of_need fun hs1 => ?_
              refine wo_val (.str (src.drop (Int.toNat r1.2.1))) rfl (pv_slice (sl_strA ti9 hs1)) ?_
              refine of_call [(.str (src.drop (Int.toNat r1.2.1)))] rfl rfl rfl rfl ((cp_lex_Lex (src.drop (Int.toNat r1.2.1))) _) (fun v _ => wu_pan Tryd.func9 hI) fun r4 _ => ?_
              refine wo_val (.tup [(.sl 4 (List.map rToken r4.1)), (.int .i64 r4.2.1), (.int .i64 r4.2.2)]) rfl pv_move ?_
              refine wo_val (.sl 4 (List.map rToken r4.1)) rfl (pv_ext rfl) ?_
              refine wo_val (.int .i64 r4.2.1) rfl (pv_ext rfl) ?_
              refine wo_val (.int .i64 r4.2.2) rfl (pv_ext rfl) ?_
              refine wo_val (.sl 4 (List.map rToken r4.1)) rfl pv_assign ?_
              refine wo_val (.int .i64 r4.2.1) rfl pv_assign ?_
              refine wo_val (.int .i64 r4.2.2) rfl pv_assign ?_
              refine wo_nil ?_
              refine wr_seq ?_
              refine wr_region ?_
              refine wo_val (.int .i64 r2.2.2) rfl pv_move ?_
              refine wo_val (.bool (r2.2.2 == 0)) rfl (pv_bin rfl rfl rfl) ?_
              refine wo_val (.bool (r2.2.2 == 0)) rfl pv_move ?_
              refine wo_meet 3 [(6, (.int .i64 r1.2.1)), (12, (.int .i64 r3.2.1)), (13, (.int .i64 r3.2.2)), (15, (.int .i64 r4.2.1)), (16, (.int .i64 r4.2.2)), (77, (.bool ((r2.2.2 == 0) && (r2.2.1 == 0))))] ?_ fun hJ2 => wo_cases (r2.2.2 == 0) (fun hb5 => ?_) (fun hb5 => ?_)
              · refine wo_val (.bool ((r2.2.2 == 0) && (r2.2.1 == 0))) rfl pv_move ?_
                refine wo_meet 3 [(6, (.int .i64 r1.2.1)), (12, (.int .i64 r3.2.1)), (15, (.int .i64 r4.2.1)), (16, (.int .i64 r4.2.2)), (81, (.bool (((r2.2.2 == 0) && (r2.2.1 == 0)) && (r3.2.2 == 70))))] ?_ fun hJ3 => wo_cases ((r2.2.2 == 0) && (r2.2.1 == 0)) (fun hb7 => ?_) (fun hb7 => ?_)
                · refine wo_val (.bool (((r2.2.2 == 0) && (r2.2.1 == 0)) && (r3.2.2 == 70))) rfl pv_move ?_
                  refine wo_meet 4 [(15, (.int .i64 r4.2.1)), (16, (.int .i64 r4.2.2)), (86, (.bool ((((r2.2.2 == 0) && (r2.2.1 == 0)) && (r3.2.2 == 70)) && (r3.2.1 == r1.2.1))))] ?_ fun hJ4 => wo_cases (((r2.2.2 == 0) && (r2.2.1 == 0)) && (r3.2.2 == 70)) (fun hb9 => ?_) (fun hb9 => ?_)
                  · refine wo_val (.bool ((((r2.2.2 == 0) && (r2.2.1 == 0)) && (r3.2.2 == 70)) && (r3.2.1 == r1.2.1))) rfl pv_move ?_
                    refine wo_meet 3 [(15, (.int .i64 r4.2.1)), (90, (.bool (((((r2.2.2 == 0) && (r2.2.1 == 0)) && (r3.2.2 == 70)) && (r3.2.1 == r1.2.1)) && (r4.2.2 == 70))))] ?_ fun hJ5 => wo_cases ((((r2.2.2 == 0) && (r2.2.1 == 0)) && (r3.2.2 == 70)) && (r3.2.1 == r1.2.1)) (fun hb11 => ?_) (fun hb11 => ?_)
                    · refine wo_val (.bool (((((r2.2.2 == 0) && (r2.2.1 == 0)) && (r3.2.2 == 70)) && (r3.2.1 == r1.2.1)) && (r4.2.2 == 70))) rfl pv_move ?_
                      refine wo_meet 3 [(94, (.bool ((((((r2.2.2 == 0) && (r2.2.1 == 0)) && (r3.2.2 == 70)) && (r3.2.1 == r1.2.1)) && (r4.2.2 == 70)) && (r4.2.1 == 0))))] ?_ fun hJ6 => wo_cases (((((r2.2.2 == 0) && (r2.2.1 == 0)) && (r3.2.2 == 70)) && (r3.2.1 == r1.2.1)) && (r4.2.2 == 70)) (fun hb13 => ?_) (fun hb13 => ?_)
                      · refine wo_val (.bool ((((((r2.2.2 == 0) && (r2.2.1 == 0)) && (r3.2.2 == 70)) && (r3.2.1 == r1.2.1)) && (r4.2.2 == 70)) && (r4.2.1 == 0))) rfl pv_assign ?_
                        refine wo_nil ?_
                        exact wr_ret (a := ((((((r2.2.2 == 0) && (r2.2.1 == 0)) && (r3.2.2 == 70)) && (r3.2.1 == r1.2.1)) && (r4.2.2 == 70)) && (r4.2.1 == 0))) (vs := [(.bool ((((((r2.2.2 == 0) && (r2.2.1 == 0)) && (r3.2.2 == 70)) && (r3.2.1 == r1.2.1)) && (r4.2.2 == 70)) && (r4.2.1 == 0)))]) Tryd.func9 hI rfl (.same _)
                      · refine wo_valg (tj := 91) (.int .i64 r4.2.1) rfl (congrArg AV.bool hb13) rfl pv_move ?_
                        refine wo_valg (tj := 91) (.bool (r4.2.1 == 0)) rfl (congrArg AV.bool hb13) rfl (pv_bin rfl rfl rfl) ?_
                        refine wo_val (.bool (r4.2.1 == 0)) rfl (pv_pick (t := true) (congrArg AV.bool hb13) rfl) ?_
                        exact wo_is [(94, (.bool ((((((r2.2.2 == 0) && (r2.2.1 == 0)) && (r3.2.2 == 70)) && (r3.2.1 == r1.2.1)) && (r4.2.2 == 70)) && (r4.2.1 == 0))))] (.cons (and_t hb13) .nil) hJ6
                      · refine wo_not (tj := 91) (b := false) rfl (congrArg AV.bool hb13) rfl rfl ?_
                        refine wo_not (tj := 91) (b := false) rfl (congrArg AV.bool hb13) rfl rfl ?_
                        refine wo_val (.bool false) rfl (pv_pick (t := false) (congrArg AV.bool hb13) rfl) ?_
                        exact wo_is [(94, (.bool ((((((r2.2.2 == 0) && (r2.2.1 == 0)) && (r3.2.2 == 70)) && (r3.2.1 == r1.2.1)) && (r4.2.2 == 70)) && (r4.2.1 == 0))))] (.cons (and_f hb13) .nil) hJ6
                    · refine wo_valg (tj := 87) (.int .i64 r4.2.2) rfl (congrArg AV.bool hb11) rfl pv_move ?_
                      refine wo_valg (tj := 87) (.bool (r4.2.2 == 70)) rfl (congrArg AV.bool hb11) rfl (pv_bin rfl rfl rfl) ?_
                      refine wo_val (.bool (r4.2.2 == 70)) rfl (pv_pick (t := true) (congrArg AV.bool hb11) rfl) ?_
                      exact wo_is [(15, (.int .i64 r4.2.1)), (90, (.bool (((((r2.2.2 == 0) && (r2.2.1 == 0)) && (r3.2.2 == 70)) && (r3.2.1 == r1.2.1)) && (r4.2.2 == 70))))] (.cons rfl (.cons (and_t hb11) .nil)) hJ5
                    · refine wo_not (tj := 87) (b := false) rfl (congrArg AV.bool hb11) rfl rfl ?_
                      refine wo_not (tj := 87) (b := false) rfl (congrArg AV.bool hb11) rfl rfl ?_
                      refine wo_val (.bool false) rfl (pv_pick (t := false) (congrArg AV.bool hb11) rfl) ?_
                      exact wo_is [(15, (.int .i64 r4.2.1)), (90, (.bool (((((r2.2.2 == 0) && (r2.2.1 == 0)) && (r3.2.2 == 70)) && (r3.2.1 == r1.2.1)) && (r4.2.2 == 70))))] (.cons rfl (.cons (and_f hb11) .nil)) hJ5
                  · refine wo_valg (tj := 82) (.int .i64 r3.2.1) rfl (congrArg AV.bool hb9) rfl pv_move ?_
                    refine wo_valg (tj := 82) (.int .i64 r1.2.1) rfl (congrArg AV.bool hb9) rfl pv_move ?_
                    refine wo_valg (tj := 82) (.bool (r3.2.1 == r1.2.1)) rfl (congrArg AV.bool hb9) rfl (pv_bin rfl rfl rfl) ?_
                    refine wo_val (.bool (r3.2.1 == r1.2.1)) rfl (pv_pick (t := true) (congrArg AV.bool hb9) rfl) ?_
                    exact wo_is [(15, (.int .i64 r4.2.1)), (16, (.int .i64 r4.2.2)), (86, (.bool ((((r2.2.2 == 0) && (r2.2.1 == 0)) && (r3.2.2 == 70)) && (r3.2.1 == r1.2.1))))] (.cons rfl (.cons rfl (.cons (and_t hb9) .nil))) hJ4
                  · refine wo_not (tj := 82) (b := false) rfl (congrArg AV.bool hb9) rfl rfl ?_
                    refine wo_not (tj := 82) (b := false) rfl (congrArg AV.bool hb9) rfl rfl ?_
                    refine wo_not (tj := 82) (b := false) rfl (congrArg AV.bool hb9) rfl rfl ?_
                    refine wo_val (.bool false) rfl (pv_pick (t := false) (congrArg AV.bool hb9) rfl) ?_
                    exact wo_is [(15, (.int .i64 r4.2.1)), (16, (.int .i64 r4.2.2)), (86, (.bool ((((r2.2.2 == 0) && (r2.2.1 == 0)) && (r3.2.2 == 70)) && (r3.2.1 == r1.2.1))))] (.cons rfl (.cons rfl (.cons (and_f hb9) .nil))) hJ4
                · refine wo_valg (tj := 78) (.int .i64 r3.2.2) rfl (congrArg AV.bool hb7) rfl pv_move ?_
                  refine wo_valg (tj := 78) (.bool (r3.2.2 == 70)) rfl (congrArg AV.bool hb7) rfl (pv_bin rfl rfl rfl) ?_
                  refine wo_val (.bool (r3.2.2 == 70)) rfl (pv_pick (t := true) (congrArg AV.bool hb7) rfl) ?_
                  exact wo_is [(6, (.int .i64 r1.2.1)), (12, (.int .i64 r3.2.1)), (15, (.int .i64 r4.2.1)), (16, (.int .i64 r4.2.2)), (81, (.bool (((r2.2.2 == 0) && (r2.2.1 == 0)) && (r3.2.2 == 70))))] (.cons rfl (.cons rfl (.cons rfl (.cons rfl (.cons (and_t hb7) .nil))))) hJ3
                · refine wo_not (tj := 78) (b := false) rfl (congrArg AV.bool hb7) rfl rfl ?_
                  refine wo_not (tj := 78) (b := false) rfl (congrArg AV.bool hb7) rfl rfl ?_
                  refine wo_val (.bool false) rfl (pv_pick (t := false) (congrArg AV.bool hb7) rfl) ?_
                  exact wo_is [(6, (.int .i64 r1.2.1)), (12, (.int .i64 r3.2.1)), (15, (.int .i64 r4.2.1)), (16, (.int .i64 r4.2.2)), (81, (.bool (((r2.2.2 == 0) && (r2.2.1 == 0)) && (r3.2.2 == 70))))] (.cons rfl (.cons rfl (.cons rfl (.cons rfl (.cons (and_f hb7) .nil))))) hJ3
              · refine wo_valg (tj := 74) (.int .i64 r2.2.1) rfl (congrArg AV.bool hb5) rfl pv_move ?_
                refine wo_valg (tj := 74) (.bool (r2.2.1 == 0)) rfl (congrArg AV.bool hb5) rfl (pv_bin rfl rfl rfl) ?_
                refine wo_val (.bool (r2.2.1 == 0)) rfl (pv_pick (t := true) (congrArg AV.bool hb5) rfl) ?_
                exact wo_is [(6, (.int .i64 r1.2.1)), (12, (.int .i64 r3.2.1)), (13, (.int .i64 r3.2.2)), (15, (.int .i64 r4.2.1)), (16, (.int .i64 r4.2.2)), (77, (.bool ((r2.2.2 == 0) && (r2.2.1 == 0))))] (.cons rfl (.cons rfl (.cons rfl (.cons rfl (.cons rfl (.cons (and_t hb5) .nil)))))) hJ2
              · refine wo_not (tj := 74) (b := false) rfl (congrArg AV.bool hb5) rfl rfl ?_
                refine wo_not (tj := 74) (b := false) rfl (congrArg AV.bool hb5) rfl rfl ?_
                refine wo_val (.bool false) rfl (pv_pick (t := false) (congrArg AV.bool hb5) rfl) ?_
                exact wo_is [(6, (.int .i64 r1.2.1)), (12, (.int .i64 r3.2.1)), (13, (.int .i64 r3.2.2)), (15, (.int .i64 r4.2.1)), (16, (.int .i64 r4.2.2)), (77, (.bool ((r2.2.2 == 0) && (r2.2.1 == 0))))] (.cons rfl (.cons rfl (.cons rfl (.cons rfl (.cons rfl (.cons (and_f hb5) .nil)))))) hJ2
          · refine wo_not (tj := 41) (b := true) rfl (congrArg AV.bool hb3) rfl rfl ?_
            refine wo_not (tj := 41) (b := true) rfl (congrArg AV.bool hb3) rfl rfl ?_
            refine wo_not (tj := 41) (b := true) rfl (congrArg AV.bool hb3) rfl rfl ?_
            refine wo_not (tj := 41) (b := true) rfl (congrArg AV.bool hb3) rfl rfl ?_
            refine wo_val (.bool true) rfl (pv_pick (t := true) (congrArg AV.bool hb3) rfl) ?_
            exact wo_is [(0, (.str src)), (1, (.str more)), (6, (.int .i64 r1.2.1)), (46, (.bool (((r1.2.2 != 70) || (decide (r1.2.1 < 0))) || (decide (r1.2.1 ≥ (src.length : Int))))))] (.cons rfl (.cons rfl (.cons rfl (.cons (or_t hb3) .nil)))) hJ1
          · refine wo_valg (tj := 41) (.int .i64 r1.2.1) rfl (congrArg AV.bool hb3) rfl pv_move ?_
            refine wo_valg (tj := 41) (.str src) rfl (congrArg AV.bool hb3) rfl pv_move ?_
            refine wo_valg (tj := 41) (.int .i64 (src.length : Int)) rfl (congrArg AV.bool hb3) rfl (pv_len (len_str ti9)) ?_
            refine wo_valg (tj := 41) (.bool (decide (r1.2.1 ≥ (src.length : Int)))) rfl (congrArg AV.bool hb3) rfl (pv_bin rfl rfl rfl) ?_
            refine wo_val (.bool (decide (r1.2.1 ≥ (src.length : Int)))) rfl (pv_pick (t := false) (congrArg AV.bool hb3) rfl) ?_
            exact wo_is [(0, (.str src)), (1, (.str more)), (6, (.int .i64 r1.2.1)), (46, (.bool (((r1.2.2 != 70) || (decide (r1.2.1 < 0))) || (decide (r1.2.1 ≥ (src.length : Int))))))] (.cons rfl (.cons rfl (.cons rfl (.cons (or_f hb3) .nil)))) hJ1
        · refine wo_not (tj := 37) (b := true) rfl (congrArg AV.bool hb1) rfl rfl ?_
          refine wo_not (tj := 37) (b := true) rfl (congrArg AV.bool hb1) rfl rfl ?_
          refine wo_val (.bool true) rfl (pv_pick (t := true) (congrArg AV.bool hb1) rfl) ?_
          exact wo_is [(0, (.str src)), (1, (.str more)), (6, (.int .i64 r1.2.1)), (40, (.bool ((r1.2.2 != 70) || (decide (r1.2.1 < 0)))))] (.cons rfl (.cons rfl (.cons rfl (.cons (or_t hb1) .nil)))) hJ
        · refine wo_valg (tj := 37) (.int .i64 r1.2.1) rfl (congrArg AV.bool hb1) rfl pv_move ?_
          refine wo_valg (tj := 37) (.bool (decide (r1.2.1 < 0))) rfl (congrArg AV.bool hb1) rfl (pv_bin rfl rfl rfl) ?_
          refine wo_val (.bool (decide (r1.2.1 < 0))) rfl (pv_pick (t := false) (congrArg AV.bool hb1) rfl) ?_
          exact wo_is [(0, (.str src)), (1, (.str more)), (6, (.int .i64 r1.2.1)), (40, (.bool ((r1.2.2 != 70) || (decide (r1.2.1 < 0)))))] (.cons rfl (.cons rfl (.cons rfl (.cons (or_f hb1) .nil)))) hJ
  · refine wr_seq ?_
    refine wr_region ?_
    refine wo_val (.bool false) rfl pv_assign ?_
    refine wo_nil ?_
    exact wr_ret (a := false) (vs := [(.bool false)]) Tryd.func9 hI rfl (.same _)

theorem cp_law07_LexNames (s : Str) : CP Tryd.prog 10 [(.str s)] (law07_LexNames s) (fun (x : Bool) => (AV.bool x)) := by
  refine cp_intro (n := 73) 0 Tryd.func10 rfl (by decide) rfl rfl fun h0 ids hI => ?_
  refine wr_in (wr_mod (law07_LexNames.eq_1 _) ?_)
  refine wr_seq ?_
  refine wr_region ?_
  refine wo_val (.bool false) rfl pv_assign ?_
  refine wo_nil ?_
  refine wr_seq ?_
  refine wr_seq ?_
  refine wr_region ?_
  refine of_call [] rfl rfl rfl rfl ((cp_law07_sane) _) (fun v _ => wu_pan Tryd.func10 hI) fun r _ => ?_
  refine wo_val (.bool (!r)) rfl (pv_un rfl) ?_
  refine wo_nil ?_
  refine wf_itebn rfl (fun hc => ?_) (fun hc => ?_)
  · refine wr_skip ?_
    refine wr_seq ?_
    refine wr_seq ?_
    refine wr_region ?_
    refine wo_val (.str s) rfl pv_move ?_
    refine wo_val (.int .i64 (s.length : Int)) rfl (pv_len (len_str ti9)) ?_
    refine wo_val (.bool (decide ((s.length : Int) > 1000))) rfl (pv_bin rfl rfl rfl) ?_
    refine wo_nil ?_
    refine wf_ite rfl (fun hc1 => ?_) (fun hc1 => ?_)
    · refine wr_seq ?_
      refine wr_region ?_
      refine wo_val (.bool true) rfl pv_assign ?_
      refine wo_nil ?_
      exact wr_ret (a := true) (vs := [(.bool true)]) Tryd.func10 hI rfl (.same _)
    · refine wr_skip ?_
      refine wr_seq ?_
      refine wr_region ?_
      refine wo_val (.str s) rfl pv_move ?_
      refine of_call [(.str s)] rfl rfl rfl rfl ((cp_lex_Lex s) _) (fun v _ => wu_pan Tryd.func10 hI) fun r1 _ => ?_
      refine wo_val (.tup [(.sl 4 (List.map rToken r1.1)), (.int .i64 r1.2.1), (.int .i64 r1.2.2)]) rfl pv_move ?_
      refine wo_val (.sl 4 (List.map rToken r1.1)) rfl (pv_ext rfl) ?_
      refine wo_val (.int .i64 r1.2.1) rfl (pv_ext rfl) ?_
      refine wo_val (.int .i64 r1.2.2) rfl (pv_ext rfl) ?_
      refine wo_val (.sl 4 (List.map rToken r1.1)) rfl pv_assign ?_
      refine wo_val (.int .i64 r1.2.1) rfl pv_assign ?_
      refine wo_val (.int .i64 r1.2.2) rfl pv_assign ?_
      refine wo_nil ?_
      refine wr_seq ?_
      refine wr_region ?_
      refine wo_val (.int .i64 r1.2.2) rfl pv_move ?_
      refine wo_val (.bool (r1.2.2 == 0)) rfl (pv_bin rfl rfl rfl) ?_
      refine wo_val (.bool (r1.2.2 == 0)) rfl pv_move ?_
      refine wo_meet 4 [(0, (.str s)), (3, (.sl 4 (List.map rToken r1.1))), (26, (.bool ((r1.2.2 == 0) && ((r1.1.length : Int) == 1))))] ?_ fun hJ => wo_cases (r1.2.2 == 0) (fun hb1 => ?_) (fun hb1 => ?_)
      · refine wo_val (.bool ((r1.2.2 == 0) && ((r1.1.length : Int) == 1))) rfl pv_move ?_
        refine wo_join 6 ((fun (b : Bool) => (if b then (idx r1.1 0).bind fun a1 =>
  R.ok (a1.Text == s) else R.ok false).bind (fun (b1 : Bool) => (if b1 then (idx r1.1 0).bind fun a2 =>
  R.ok (a2.At == 0) else R.ok false).bind (fun (b2 : Bool) => (if b2 then (idx r1.1 0).bind fun a3 =>
  R.ok (a3.N == 0) else R.ok false).bind (fun (b3 : Bool) => (lex_Text [({ Kind := 1, Text := s, N := 0, At := 0 } : Token)]).bind fun r2 =>
  (lex_Name s).bind fun r3 =>
  .ok ((r3 == b3) && (b3 == (r2.2 == 0))))))) : Bool → R Bool) (fun (b : Bool) (fr : Nat → AV) (h : AHeap) => fr = frA [(0, (.str s)), (3, (.sl 4 (List.map rToken r1.1))), (33, (.bool b))] ∧ h = hp h0 ids []) ?_ fun hJ1 => of_if1 (fun hb3 => ?_) (fun hb3 => ?_)
        · rintro b fr h ⟨rfl, rfl⟩
          refine wo_val (.bool b) rfl pv_move ?_
          refine wo_join 7 ((fun (b1 : Bool) => (if b1 then (idx r1.1 0).bind fun a2 =>
  R.ok (a2.At == 0) else R.ok false).bind (fun (b2 : Bool) => (if b2 then (idx r1.1 0).bind fun a3 =>
  R.ok (a3.N == 0) else R.ok false).bind (fun (b3 : Bool) => (lex_Text [({ Kind := 1, Text := s, N := 0, At := 0 } : Token)]).bind fun r2 =>
  (lex_Name s).bind fun r3 =>
  .ok ((r3 == b3) && (b3 == (r2.2 == 0)))))) : Bool → R Bool) (fun (b1 : Bool) (fr : Nat → AV) (h : AHeap) => fr = frA [(0, (.str s)), (3, (.sl 4 (List.map rToken r1.1))), (41, (.bool b1))] ∧ h = hp h0 ids []) ?_ fun hJ2 => of_if1 (fun hb5 => ?_) (fun hb5 => ?_)
          · rintro b1 fr h ⟨rfl, rfl⟩
            refine wo_val (.bool b1) rfl pv_move ?_
            refine wo_join 6 ((fun (b2 : Bool) => (if b2 then (idx r1.1 0).bind fun a3 =>
  R.ok (a3.N == 0) else R.ok false).bind (fun (b3 : Bool) => (lex_Text [({ Kind := 1, Text := s, N := 0, At := 0 } : Token)]).bind fun r2 =>
  (lex_Name s).bind fun r3 =>
  .ok ((r3 == b3) && (b3 == (r2.2 == 0))))) : Bool → R Bool) (fun (b2 : Bool) (fr : Nat → AV) (h : AHeap) => fr = frA [(0, (.str s)), (3, (.sl 4 (List.map rToken r1.1))), (48, (.bool b2))] ∧ h = hp h0 ids []) ?_ fun hJ3 => of_if1 (fun hb7 => ?_) (fun hb7 => ?_)
            · rintro b2 fr h ⟨rfl, rfl⟩
              refine wo_val (.bool b2) rfl pv_move ?_
              refine wo_join 6 ((fun (b3 : Bool) => (lex_Text [({ Kind := 1, Text := s, N := 0, At := 0 } : Token)]).bind fun r2 =>
  (lex_Name s).bind fun r3 =>
  .ok ((r3 == b3) && (b3 == (r2.2 == 0)))) : Bool → R Bool) (fun (b3 : Bool) (fr : Nat → AV) (h : AHeap) => fr = frA [(0, (.str s)), (55, (.bool b3))] ∧ h = hp h0 ids []) ?_ fun hJ4 => of_if1 (fun hb9 => ?_) (fun hb9 => ?_)
              · rintro b3 fr h ⟨rfl, rfl⟩
                refine wo_val (.bool b3) rfl pv_assign ?_
                refine wo_nil ?_
                refine wr_seq ?_
                refine wr_region ?_
                refine wo_val (.str s) rfl pv_move ?_
                refine wo_val (.agg [(.int .i64 1), (.str s), (.int .i64 0), (.int .i64 0)]) rfl (pv_build (bd_st ti35 pl35 rfl)) ?_
                refine wo_bsC (e := rToken) (L := [({ Kind := 1, Text := s, N := 0, At := 0 } : Token)]) (st := 4) (rows := [[(.int .i64 1), (.str s), (.int .i64 0), (.int .i64 0)]]) rfl ti23 ti35 rfl rfl rfl rfl rfl (.cons (.cons (.same _) (.cons (.same _) (.cons (.same _) (.cons (.same _) .nil)))) .nil) (fun x => ok_Token x) rfl rfl ?_
                refine of_call [(.sl 4 (List.map rToken [({ Kind := 1, Text := s, N := 0, At := 0 } : Token)]))] rfl rfl rfl rfl ((cp_lex_Text [({ Kind := 1, Text := s, N := 0, At := 0 } : Token)]) _) (fun v _ => wu_pan Tryd.func10 hI) fun r2 _ => ?_
                refine wo_val (.tup [(.str r2.1), (.int .i64 r2.2)]) rfl pv_move ?_
                refine wo_val (.str r2.1) rfl (pv_ext rfl) ?_
                refine wo_val (.int .i64 r2.2) rfl (pv_ext rfl) ?_
                refine wo_val (.str r2.1) rfl pv_assign ?_
                refine wo_val (.int .i64 r2.2) rfl pv_assign ?_
                refine wo_nil ?_
                refine wr_seq ?_
                refine wr_region ?_
                refine wo_val (.str s) rfl pv_move ?_
                refine of_call [(.str s)] rfl rfl rfl rfl ((cp_lex_Name s) _) (fun v _ => wu_pan Tryd.func10 hI) fun r3 _ => ?_
                refine wo_val (.bool b3) rfl pv_move ?_
                refine wo_val (.bool (r3 == b3)) rfl (pv_bin rfl rfl (bin_beq ti4)) ?_
                refine wo_val (.bool (r3 == b3)) rfl pv_move ?_
                refine wo_meet 5 [(72, (.bool ((r3 == b3) && (b3 == (r2.2 == 0)))))] ?_ fun hJ5 => wo_cases (r3 == b3) (fun hb11 => ?_) (fun hb11 => ?_)
                · refine wo_val (.bool ((r3 == b3) && (b3 == (r2.2 == 0)))) rfl pv_assign ?_
                  refine wo_nil ?_
                  exact wr_ret (a := ((r3 == b3) && (b3 == (r2.2 == 0)))) (vs := [(.bool ((r3 == b3) && (b3 == (r2.2 == 0))))]) Tryd.func10 hI rfl (.same _)
                · refine wo_valg (tj := 67) (.bool b3) rfl (congrArg AV.bool hb11) rfl pv_move ?_
                  refine wo_valg (tj := 67) (.int .i64 r2.2) rfl (congrArg AV.bool hb11) rfl pv_move ?_
                  refine wo_valg (tj := 67) (.bool (r2.2 == 0)) rfl (congrArg AV.bool hb11) rfl (pv_bin rfl rfl rfl) ?_
                  refine wo_valg (tj := 67) (.bool (b3 == (r2.2 == 0))) rfl (congrArg AV.bool hb11) rfl (pv_bin rfl rfl (bin_beq ti4)) ?_
                  refine wo_val (.bool (b3 == (r2.2 == 0))) rfl (pv_pick (t := true) (congrArg AV.bool hb11) rfl) ?_
                  exact wo_is [(72, (.bool ((r3 == b3) && (b3 == (r2.2 == 0)))))] (.cons (and_t hb11) .nil) hJ5
                · refine wo_not (tj := 67) (b := false) rfl (congrArg AV.bool hb11) rfl rfl ?_
                  refine wo_not (tj := 67) (b := false) rfl (congrArg AV.bool hb11) rfl rfl ?_
                  refine wo_not (tj := 67) (b := false) rfl (congrArg AV.bool hb11) rfl rfl ?_
                  refine wo_not (tj := 67) (b := false) rfl (congrArg AV.bool hb11) rfl rfl ?_
                  refine wo_val (.bool false) rfl (pv_pick (t := false) (congrArg AV.bool hb11) rfl) ?_
                  exact wo_is [(72, (.bool ((r3 == b3) && (b3 == (r2.2 == 0)))))] (.cons (and_f hb11) .nil) hJ5
              · refine wo_valg (tj := 49) (.sl 4 (List.map rToken r1.1)) rfl (congrArg AV.bool hb9) rfl pv_move ?_
                refine of_idx fun a3 hz3 hx4 => ?_
                refine wo_valg (tj := 49) (.cp (rToken a3) 0) rfl (congrArg AV.bool hb9) rfl (pv_ixa (ixa_sl ti23 ti35 rfl hz3 hx4)) ?_
                refine wo_valg (tj := 49) (.cp (rToken a3) 2) rfl (congrArg AV.bool hb9) rfl (pv_fa (fa_cp (c := 0) (off := 2) (i := 2) ti35 rfl ti3 rfl)) ?_
                refine wo_valg (tj := 49) (.int .i64 a3.N) rfl (congrArg AV.bool hb9) rfl (pv_load (ld_cp ti3 rfl)) ?_
                refine wo_valg (tj := 49) (.bool (a3.N == 0)) rfl (congrArg AV.bool hb9) rfl (pv_bin rfl rfl rfl) ?_
                refine wo_val (.bool (a3.N == 0)) rfl (pv_pick (t := true) (congrArg AV.bool hb9) rfl) ?_
                refine wo_back1 ?_
                refine wo_is [(0, (.str s)), (55, (.bool (a3.N == 0)))] (.cons rfl (.cons rfl .nil)) ?_
                exact hJ4 (a3.N == 0) _ _ ⟨rfl, rfl⟩
              · refine wo_not (tj := 49) (b := false) rfl (congrArg AV.bool hb9) rfl rfl ?_
                refine wo_not (tj := 49) (b := false) rfl (congrArg AV.bool hb9) rfl rfl ?_
                refine wo_not (tj := 49) (b := false) rfl (congrArg AV.bool hb9) rfl rfl ?_
                refine wo_not (tj := 49) (b := false) rfl (congrArg AV.bool hb9) rfl rfl ?_
                refine wo_not (tj := 49) (b := false) rfl (congrArg AV.bool hb9) rfl rfl ?_
                refine wo_val (.bool false) rfl (pv_pick (t := false) (congrArg AV.bool hb9) rfl) ?_
                refine wo_back1 ?_
                refine wo_is [(0, (.str s)), (55, (.bool false))] (.cons rfl (.cons rfl .nil)) ?_
                exact hJ4 false _ _ ⟨rfl, rfl⟩
            · refine wo_valg (tj := 42) (.sl 4 (List.map rToken r1.1)) rfl (congrArg AV.bool hb7) rfl pv_move ?_
              refine of_idx fun a2 hz2 hx3 => ?_
              refine wo_valg (tj := 42) (.cp (rToken a2) 0) rfl (congrArg AV.bool hb7) rfl (pv_ixa (ixa_sl ti23 ti35 rfl hz2 hx3)) ?_
              refine wo_valg (tj := 42) (.cp (rToken a2) 3) rfl (congrArg AV.bool hb7) rfl (pv_fa (fa_cp (c := 0) (off := 3) (i := 3) ti35 rfl ti3 rfl)) ?_
              refine wo_valg (tj := 42) (.int .i64 a2.At) rfl (congrArg AV.bool hb7) rfl (pv_load (ld_cp ti3 rfl)) ?_
              refine wo_valg (tj := 42) (.bool (a2.At == 0)) rfl (congrArg AV.bool hb7) rfl (pv_bin rfl rfl rfl) ?_
              refine wo_val (.bool (a2.At == 0)) rfl (pv_pick (t := true) (congrArg AV.bool hb7) rfl) ?_
              refine wo_back1 ?_
              refine wo_is [(0, (.str s)), (3, (.sl 4 (List.map rToken r1.1))), (48, (.bool (a2.At == 0)))] (.cons rfl (.cons rfl (.cons rfl .nil))) ?_
              exact hJ3 (a2.At == 0) _ _ ⟨rfl, rfl⟩
            · refine wo_not (tj := 42) (b := false) rfl (congrArg AV.bool hb7) rfl rfl ?_
              refine wo_not (tj := 42) (b := false) rfl (congrArg AV.bool hb7) rfl rfl ?_
              refine wo_not (tj := 42) (b := false) rfl (congrArg AV.bool hb7) rfl rfl ?_
              refine wo_not (tj := 42) (b := false) rfl (congrArg AV.bool hb7) rfl rfl ?_
              refine wo_not (tj := 42) (b := false) rfl (congrArg AV.bool hb7) rfl rfl ?_
              refine wo_val (.bool false) rfl (pv_pick (t := false) (congrArg AV.bool hb7) rfl) ?_
              refine wo_back1 ?_
              refine wo_is [(0, (.str s)), (3, (.sl 4 (List.map rToken r1.1))), (48, (.bool false))] (.cons rfl (.cons rfl (.cons rfl .nil))) ?_
              exact hJ3 false _ _ ⟨rfl, rfl⟩
          · refine wo_valg (tj := 34) (.sl 4 (List.map rToken r1.1)) rfl (congrArg AV.bool hb5) rfl pv_move ?_
            refine of_idx fun a1 hz1 hx2 => ?_
            refine wo_valg (tj := 34) (.cp (rToken a1) 0) rfl (congrArg AV.bool hb5) rfl (pv_ixa (ixa_sl ti23 ti35 rfl hz1 hx2)) ?_
            refine wo_valg (tj := 34) (.cp (rToken a1) 1) rfl (congrArg AV.bool hb5) rfl (pv_fa (fa_cp (c := 0) (off := 1) (i := 1) ti35 rfl ti9 rfl)) ?_
            refine wo_valg (tj := 34) (.str a1.Text) rfl (congrArg AV.bool hb5) rfl (pv_load (ld_cp ti9 rfl)) ?_
            refine wo_valg (tj := 34) (.str s) rfl (congrArg AV.bool hb5) rfl pv_move ?_
            refine wo_valg (tj := 34) (.bool (a1.Text == s)) rfl (congrArg AV.bool hb5) rfl (pv_bin rfl rfl rfl) ?_
            refine wo_val (.bool (a1.Text == s)) rfl (pv_pick (t := true) (congrArg AV.bool hb5) rfl) ?_
            refine wo_back1 ?_
            refine wo_is [(0, (.str s)), (3, (.sl 4 (List.map rToken r1.1))), (41, (.bool (a1.Text == s)))] (.cons rfl (.cons rfl (.cons rfl .nil))) ?_
            exact hJ2 (a1.Text == s) _ _ ⟨rfl, rfl⟩
          · refine wo_not (tj := 34) (b := false) rfl (congrArg AV.bool hb5) rfl rfl ?_
            refine wo_not (tj := 34) (b := false) rfl (congrArg AV.bool hb5) rfl rfl ?_
            refine wo_not (tj := 34) (b := false) rfl (congrArg AV.bool hb5) rfl rfl ?_
            refine wo_not (tj := 34) (b := false) rfl (congrArg AV.bool hb5) rfl rfl ?_
            refine wo_not (tj := 34) (b := false) rfl (congrArg AV.bool hb5) rfl rfl ?_
            refine wo_not (tj := 34) (b := false) rfl (congrArg AV.bool hb5) rfl rfl ?_
            refine wo_val (.bool false) rfl (pv_pick (t := false) (congrArg AV.bool hb5) rfl) ?_
            refine wo_back1 ?_
            refine wo_is [(0, (.str s)), (3, (.sl 4 (List.map rToken r1.1))), (41, (.bool false))] (.cons rfl (.cons rfl (.cons rfl .nil))) ?_
            exact hJ2 false _ _ ⟨rfl, rfl⟩
        · refine wo_valg (tj := 27) (.sl 4 (List.map rToken r1.1)) rfl (congrArg AV.bool hb3) rfl pv_move ?_
          refine of_idx fun a hz hx1 => ?_
          refine wo_valg (tj := 27) (.cp (rToken a) 0) rfl (congrArg AV.bool hb3) rfl (pv_ixa (ixa_sl ti23 ti35 rfl hz hx1)) ?_
          refine wo_valg (tj := 27) (.cp (rToken a) 0) rfl (congrArg AV.bool hb3) rfl (pv_fa (fa_cp (c := 0) (off := 0) (i := 0) ti35 rfl ti3 rfl)) ?_
          refine wo_valg (tj := 27) (.int .i64 a.Kind) rfl (congrArg AV.bool hb3) rfl (pv_load (ld_cp ti3 rfl)) ?_
          refine wo_valg (tj := 27) (.bool (a.Kind == 1)) rfl (congrArg AV.bool hb3) rfl (pv_bin rfl rfl rfl) ?_
          refine wo_val (.bool (a.Kind == 1)) rfl (pv_pick (t := true) (congrArg AV.bool hb3) rfl) ?_
          refine wo_back1 ?_
          refine wo_is [(0, (.str s)), (3, (.sl 4 (List.map rToken r1.1))), (33, (.bool (a.Kind == 1)))] (.cons rfl (.cons rfl (.cons rfl .nil))) ?_
          exact hJ1 (a.Kind == 1) _ _ ⟨rfl, rfl⟩
        · refine wo_not (tj := 27) (b := false) rfl (congrArg AV.bool hb3) rfl rfl ?_
          refine wo_not (tj := 27) (b := false) rfl (congrArg AV.bool hb3) rfl rfl ?_
          refine wo_not (tj := 27) (b := false) rfl (congrArg AV.bool hb3) rfl rfl ?_
          refine wo_not (tj := 27) (b := false) rfl (congrArg AV.bool hb3) rfl rfl ?_
          refine wo_not (tj := 27) (b := false) rfl (congrArg AV.bool hb3) rfl rfl ?_
          refine wo_val (.bool false) rfl (pv_pick (t := false) (congrArg AV.bool hb3) rfl) ?_
          refine wo_back1 ?_
          refine wo_is [(0, (.str s)), (3, (.sl 4 (List.map rToken r1.1))), (33, (.bool false))] (.cons rfl (.cons rfl (.cons rfl .nil))) ?_
          exact hJ1 false _ _ ⟨rfl, rfl⟩
      · refine wo_valg (tj := 22) (.sl 4 (List.map rToken r1.1)) rfl (congrArg AV.bool hb1) rfl pv_move ?_
        refine wo_valg (tj := 22) (.int .i64 (r1.1.length : Int)) rfl (congrArg AV.bool hb1) rfl (pv_len (len_sl ti23)) ?_
        refine wo_valg (tj := 22) (.bool ((r1.1.length : Int) == 1)) rfl (congrArg AV.bool hb1) rfl (pv_bin rfl rfl rfl) ?_
        refine wo_val (.bool ((r1.1.length : Int) == 1)) rfl (pv_pick (t := true) (congrArg AV.bool hb1) rfl) ?_
        exact wo_is [(0, (.str s)), (3, (.sl 4 (List.map rToken r1.1))), (26, (.bool ((r1.2.2 == 0) && ((r1.1.length : Int) == 1))))] (.cons rfl (.cons rfl (.cons (and_t hb1) .nil))) hJ
      · refine wo_not (tj := 22) (b := false) rfl (congrArg AV.bool hb1) rfl rfl ?_
        refine wo_not (tj := 22) (b := false) rfl (congrArg AV.bool hb1) rfl rfl ?_
        refine wo_not (tj := 22) (b := false) rfl (congrArg AV.bool hb1) rfl rfl ?_
        refine wo_val (.bool false) rfl (pv_pick (t := false) (congrArg AV.bool hb1) rfl) ?_
        exact wo_is [(0, (.str s)), (3, (.sl 4 (List.map rToken r1.1))), (26, (.bool ((r1.2.2 == 0) && ((r1.1.length : Int) == 1))))] (.cons rfl (.cons rfl (.cons (and_f hb1) .nil))) hJ
  · refine wr_seq ?_
    refine wr_region ?_
    refine wo_val (.bool false) rfl pv_assign ?_
    refine wo_nil ?_
    exact wr_ret (a := false) (vs := [(.bool false)]) Tryd.func10 hI rfl (.same _)
end Go.Am

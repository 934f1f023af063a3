/- The models hold of the program. Written by dc.py. -/
import Derived.Test.YtplndonhhfflhaaRdW0
namespace Go.Am
open Go Go.Proofs
set_option maxRecDepth 100000
set_option linter.unusedSimpArgs false
set_option linter.unusedVariables false
theorem cp_ref26_Check (many : Int) (l : (List Status)) : CP Try.prog 15 [(.int .i64 many), (.sl 3 (List.map rStatus l))] (ref26_Check many l) (fun (x : Int) => (AV.int .i64 x)) := by
  refine cp_intro (n := 50) 0 Try.func15 rfl (by decide) rfl rfl fun h0 ids hI => ?_
  refine wr_in (wr_mod (ref26_Check.eq_1 _ _) ?_)
  refine wr_seq ?_
  refine wr_region ?_
  refine wo_val (.int .i64 0) rfl pv_assign ?_
  refine wo_nil ?_
  refine wr_seq ?_
  refine wr_seq ?_
  refine wr_region ?_
  refine wo_val (.int .i64 many) rfl pv_move ?_
  refine of_call [(.int .i64 many), (.int .i64 0), (.int .i64 4)] rfl rfl rfl rfl ((cp_ref26_in many 0 4) _) (fun v _ => wu_pan Try.func15 hI) fun r _ => ?_
  refine wo_val (.bool (!r)) rfl (pv_un rfl) ?_
  refine wo_nil ?_
  refine wf_itebn rfl (fun hc => ?_) (fun hc => ?_)
  · refine wr_skip ?_
    refine wr_seq ?_
    refine wr_seq ?_
    refine wr_region ?_
    refine wo_val (.int .i64 0) rfl pv_assign ?_
    refine wo_nil ?_
    refine wr_block ?_
    refine wr_is [(0, (.int .i64 many)), (1, (.sl 3 (List.map rStatus l))), (5, (.int .i64 0))] (.cons rfl (.cons rfl (.cons rfl .nil))) ?_
    refine wf_each' (P := Try.prog) l (fun j a => fun _ => ref26_Check_b1 many l j a) ((alt (fun _ => .ok 0) (fun r => .ok r)) : (Unit ⊕ Int) → R Int)
      (fun j => fun _ => fun (fr : Nat → AV) (h : AHeap) => fr = frA [(0, (.int .i64 many)), (1, (.sl 3 (List.map rStatus l))), (5, (.int .i64 (j : Int)))] ∧ h = hp h0 ids []) () ?_ ?_ ?_
    · exact ⟨rfl, rfl⟩
    · rintro j a ha W hW _ fr h ⟨rfl, rfl⟩
      refine wr_mod (m' := ref26_Check_b1 many l j a) rfl (wr_mod (ref26_Check_b1.eq_1 _ _ _ _) ?_)
      refine wr_seq ?_
      refine wr_seq ?_
      refine wr_region ?_
      refine wo_val (.int .i64 (j : Int)) rfl pv_move ?_
      refine wo_val (.sl 3 (List.map rStatus l)) rfl pv_move ?_
      refine wo_val (.int .i64 (l.length : Int)) rfl (pv_len (len_sl ti22)) ?_
      refine wo_val (.bool (decide ((j : Int) < (l.length : Int)))) rfl (pv_bin rfl rfl rfl) ?_
      refine wo_nil ?_
      refine wr_lim (t := 1) (L := l) rfl fun hlim => ?_
      refine wr_condT rfl (Int.ofNat_lt.2 (lt_of_get ha)) ?_
      refine wr_skip ?_
      refine wr_seq ?_
      refine wr_block ?_
      refine wr_seq ?_
      refine wf_join (fun x => ref26_Check_j1 x) (fun x => fun (fr : Nat → AV) (h : AHeap) => fr = frA [(0, (.int .i64 many)), (1, (.sl 3 (List.map rStatus l))), (5, (.int .i64 (j : Int))), (49, (.bool x))] ∧ h = hp h0 ids []) ?_ fun hJ => ?_
      · rintro x fr h ⟨rfl, rfl⟩
        refine wr_mod (ref26_Check_j1.eq_1 _) ?_
        refine wf_iteb rfl (fun hc1 => ?_) (fun hc1 => ?_)
        · refine wr_seq ?_
          refine wr_region ?_
          refine wo_val (.int .i64 260) rfl pv_assign ?_
          refine wo_nil ?_
          refine wx_each ?_
          refine w_altr ?_
          exact wr_ret (a := 260) (vs := [(.int .i64 260)]) Try.func15 hI rfl (.same _)
        · refine wr_skip ?_
          refine wr_inBlock ?_
          refine wr_region ?_
          refine wo_val (.int .i64 (j : Int)) rfl pv_move ?_
          refine wo_val (.int .i64 (IntKind.wrap .i64 ((j : Int) + 1))) rfl (pv_bin rfl rfl rfl) ?_
          refine wo_val (.int .i64 (IntKind.wrap .i64 ((j : Int) + 1))) rfl pv_assign ?_
          refine wo_nil ?_
          refine wr_is [(0, (.int .i64 many)), (1, (.sl 3 (List.map rStatus l))), (5, (.int .i64 ((j + 1 : Nat) : Int)))] (.cons rfl (.cons rfl (.cons (inc_ok (lt_of_get ha) hlim) .nil))) ?_
          refine wb_each ?_
          refine hW () _ _ ?_
          exact ⟨rfl, rfl⟩
      · refine wr_draw hmix [[], [], [0, 1], [0, 1, 2], [0, 1, 2, 3], [], [5], [0, 1, 2, 3, 4, 5, 6], [0, 1, 2, 3, 4, 5, 6, 7], [0, 1, 2, 3, 4, 5, 6, 7, 8], [0, 1, 2, 3, 4, 5, 6, 7, 8, 9], [0, 1, 2, 3, 4, 5, 6, 7, 8, 9], [0, 1, 2, 3, 4, 5, 6, 7, 8, 9, 10, 11], [0, 1, 2, 3, 4, 5, 6, 7, 8, 9, 10, 11, 12], [0, 1, 2, 3, 4, 5, 6, 7, 8, 9, 10, 11, 12, 13], [0, 1, 2, 3, 4, 5, 6, 7, 8, 9, 10, 11, 12, 13, 14], [0, 1, 2, 3, 4, 5, 6, 7, 8, 9, 10, 11, 12, 13, 14, 15], [0, 1, 2, 3, 4, 5, 6, 7, 8, 9, 10, 11, 12, 13, 14, 15, 16], [0, 1, 2, 3, 4, 5, 6, 7, 8, 9, 10, 11, 12, 13, 14, 15, 16, 17], [0, 1, 2, 3, 4, 5, 6, 7, 8, 9, 10, 11, 12, 13, 14, 15, 16, 17, 18], [0, 1, 2, 3, 4, 5, 6, 7, 8, 9, 10, 11, 12, 13, 14, 15, 16, 17, 18, 19], [0, 1, 2, 3, 4, 5, 6, 7, 8, 9, 10, 11, 12, 13, 14, 15, 16, 17, 18, 19, 20], [0, 1, 2, 3, 4, 5, 6, 7, 8, 9, 10, 11, 12, 13, 14, 15, 16, 17, 18, 19, 20, 21], [0, 1, 2, 3, 4, 5, 6, 7, 8, 9, 10, 11, 12, 13, 14, 15, 16, 17, 18, 19, 20, 21], [0, 1, 2, 3, 4, 5, 6, 7, 8, 9, 10, 11, 12, 13, 14, 15, 16, 17, 18, 19, 20, 21, 23], [0, 1, 2, 3, 4, 5, 6, 7, 8, 9, 10, 11, 12, 13, 14, 15, 16, 17, 18, 19, 20, 21, 22, 23, 24], [0, 1, 2, 3, 4, 5, 6, 7, 8, 9, 10, 11, 12, 13, 14, 15, 16, 17, 18, 19, 20, 21, 22, 23, 24, 25], [0, 1, 2, 3, 4, 5, 6, 7, 8, 9, 10, 11, 12, 13, 14, 15, 16, 17, 18, 19, 20, 21], [0, 1, 2, 3, 4, 5, 6, 7, 8, 9, 10, 11, 12, 13, 14, 15, 16, 17, 18, 19, 20, 21], [0, 1, 2, 3, 4, 5, 6, 7, 8, 9, 10, 11, 12, 13, 14, 15, 16, 17, 18, 19, 20, 21, 27, 28], [0, 1, 2, 3, 4, 5, 6, 7, 8, 9, 10, 11, 12, 13, 14, 15, 16, 17, 18, 19, 20, 21, 27, 28, 29], [0, 1, 2, 3, 4, 5, 6, 7, 8, 9, 10, 11, 12, 13, 14, 15, 16, 17, 18, 19, 20, 21, 22, 23, 24, 25, 26, 27, 28, 29, 30], [0, 1, 2, 3, 4, 5, 6, 7, 8, 9, 10, 11, 12, 13, 14, 15, 16, 17, 18, 19, 20, 21, 22, 23, 24, 25, 26, 27, 28, 29, 30, 31], [0, 1, 2, 3, 4, 5, 6, 7, 8, 9, 10, 11, 12, 13, 14, 15, 16, 17, 18, 19, 20, 21, 22, 23, 24, 25, 26, 27, 28, 29, 30, 31, 32], [0, 1, 2, 3, 4, 5, 6, 7, 8, 9, 10, 11, 12, 13, 14, 15, 16, 17, 18, 19, 20, 21, 22, 23, 24, 25, 26, 27, 28, 29, 30, 31, 32, 33]] [(false, 0), (false, 1), (false, 2), (false, 3), (false, 4), (false, 5), (false, 6), (true, 7), (false, 8), (false, 9), (false, 10), (false, 11), (false, 12), (false, 13), (false, 14), (true, 15), (false, 16), (false, 17), (false, 18), (false, 19), (false, 20), (false, 21), (false, 22), (false, 23), (false, 24), (false, 25), (false, 26), (false, 27), (false, 28), (false, 29), (false, 30), (true, 31), (false, 32), (false, 33), (false, 34)] (by kernel_rfl) ?_
        refine wp_val (.sl 3 (List.map rStatus l)) rfl rfl pv_move ?_
        refine wp_val (.int .i64 (j : Int)) rfl rfl pv_move ?_
        refine wp_val (.cp (rStatus a) 0) rfl rfl (pv_ixa (ixa_nat ti22 ti24 rfl ha)) ?_
        refine wp_val (.cp (rStatus a) 0) rfl rfl (pv_fa (fa_cp (c := 0) (off := 0) (i := 0) ti24 rfl ti3 rfl)) ?_
        refine wp_val (.int .i64 a.Station) rfl rfl (pv_load (ld_cp ti3 rfl)) ?_
        refine wp_val (.int .i64 many) rfl rfl pv_move ?_
        refine wp_val (.int .i64 (IntKind.wrap .i64 (many - 1))) rfl rfl (pv_bin rfl rfl rfl) ?_
        refine wp_call [(.int .i64 a.Station), (.int .i64 0), (.int .i64 (IntKind.wrap .i64 (many - 1)))] rfl rfl rfl rfl rfl ((cp_ref26_in a.Station 0 (IntKind.wrap .i64 (many - 1))) _) (fun v _ _ _ => wu_pan Try.func15 hI) (pend_yes rfl (pend_yes rfl (pend_yes rfl (pend_yes rfl (pend_yes rfl (pend_yes rfl (pend_yes rfl pend_nil))))))) fun r1 _ => ?_
        refine wp_val (.bool (!r1)) rfl rfl (pv_un rfl) ?_
        refine wp_val (.bool (!r1)) rfl rfl pv_move ?_
        refine op_iteb (fun hb => ?_) (fun hb => ?_)
        · refine wp_not (tj := 24) (b := true) rfl rfl (congrArg AV.bool hb) rfl rfl ?_
          refine wp_not (tj := 24) (b := true) rfl rfl (congrArg AV.bool hb) rfl rfl ?_
          refine wp_not (tj := 24) (b := true) rfl rfl (congrArg AV.bool hb) rfl rfl ?_
          refine wp_not (tj := 24) (b := true) rfl rfl (congrArg AV.bool hb) rfl rfl ?_
          refine wp_not (tj := 24) (b := true) rfl rfl (congrArg AV.bool hb) rfl rfl ?_
          refine wp_notE (tj := 24) (b := true) rfl rfl (congrArg AV.bool hb) rfl rfl ?_
          refine wp_not (tj := 24) (b := true) rfl rfl (congrArg AV.bool hb) rfl rfl ?_
          refine wp_val (.bool true) rfl rfl (pv_pick (t := true) (congrArg AV.bool hb) rfl) ?_
          refine wp_val (.bool true) rfl rfl pv_move ?_
          refine wp_not (tj := 33) (b := true) rfl rfl rfl rfl rfl ?_
          refine wp_not (tj := 33) (b := true) rfl rfl rfl rfl rfl ?_
          refine wp_not (tj := 33) (b := true) rfl rfl rfl rfl rfl ?_
          refine wp_notu (tj := 36) rfl rfl rfl rfl ?_
          refine wp_notu (tj := 36) rfl rfl rfl rfl ?_
          refine wp_notu (tj := 36) rfl rfl rfl rfl ?_
          refine wp_notu (tj := 36) rfl rfl rfl rfl ?_
          refine wp_notu (tj := 36) rfl rfl rfl rfl ?_
          refine wp_notu (tj := 36) rfl rfl rfl rfl ?_
          refine wp_notu (tj := 36) rfl rfl rfl rfl ?_
          refine wp_notu (tj := 36) rfl rfl rfl rfl ?_
          refine wp_notu (tj := 36) rfl rfl rfl rfl ?_
          refine wp_notuE (tj := 36) rfl rfl rfl rfl ?_
          refine wp_notu (tj := 36) rfl rfl rfl rfl ?_
          refine wp_not (tj := 33) (b := true) rfl rfl rfl rfl rfl ?_
          refine wp_val (.bool true) rfl rfl (pv_pick (t := true) rfl rfl) ?_
          refine wp_nil ?_
          refine wr_is [(0, (.int .i64 many)), (1, (.sl 3 (List.map rStatus l))), (5, (.int .i64 (j : Int))), (49, (.bool true))] (.cons rfl (.cons rfl (.cons rfl (.cons rfl .nil)))) ?_
          refine hJ true _ _ ?_
          exact ⟨rfl, rfl⟩
        · refine wp_valg (tj := 24) (.sl 3 (List.map rStatus l)) rfl rfl (congrArg AV.bool hb) rfl pv_move ?_
          refine wp_valg (tj := 24) (.int .i64 (j : Int)) rfl rfl (congrArg AV.bool hb) rfl pv_move ?_
          refine wp_valg (tj := 24) (.cp (rStatus a) 0) rfl rfl (congrArg AV.bool hb) rfl (pv_ixa (ixa_nat ti22 ti24 rfl ha)) ?_
          refine wp_valg (tj := 24) (.cp (rStatus a) 1) rfl rfl (congrArg AV.bool hb) rfl (pv_fa (fa_cp (c := 0) (off := 1) (i := 1) ti24 rfl ti3 rfl)) ?_
          refine wp_valg (tj := 24) (.int .i64 a.From) rfl rfl (congrArg AV.bool hb) rfl (pv_load (ld_cp ti3 rfl)) ?_
          refine wp_call [(.int .i64 a.From), (.int .i64 0), (.int .i64 1439)] rfl (wanted_yes (tj := 24) rfl (congrArg AV.bool hb)) rfl rfl rfl ((cp_ref26_in a.From 0 1439) _) (fun v _ _ _ => wu_pan Try.func15 hI) (pend_yes rfl (pend_yes rfl (pend_yes rfl (pend_yes rfl (pend_yes rfl (pend_yes rfl (pend_yes rfl (pend_yes rfl (pend_yes rfl (pend_yes rfl (pend_yes rfl (pend_yes rfl (pend_yes rfl (pend_yes rfl pend_nil)))))))))))))) fun r2 _ => ?_
          refine wp_valg (tj := 24) (.bool (!r2)) rfl rfl (congrArg AV.bool hb) rfl (pv_un rfl) ?_
          refine wp_val (.bool (!r2)) rfl rfl (pv_pick (t := false) (congrArg AV.bool hb) rfl) ?_
          refine wp_val (.bool (!r2)) rfl rfl pv_move ?_
          refine op_iteb (fun hb1 => ?_) (fun hb1 => ?_)
          · refine wp_not (tj := 33) (b := true) rfl rfl (congrArg AV.bool hb1) rfl rfl ?_
            refine wp_not (tj := 33) (b := true) rfl rfl (congrArg AV.bool hb1) rfl rfl ?_
            refine wp_not (tj := 33) (b := true) rfl rfl (congrArg AV.bool hb1) rfl rfl ?_
            refine wp_notu (tj := 36) rfl rfl rfl rfl ?_
            refine wp_notu (tj := 36) rfl rfl rfl rfl ?_
            refine wp_notu (tj := 36) rfl rfl rfl rfl ?_
            refine wp_notu (tj := 36) rfl rfl rfl rfl ?_
            refine wp_notu (tj := 36) rfl rfl rfl rfl ?_
            refine wp_notu (tj := 36) rfl rfl rfl rfl ?_
            refine wp_notu (tj := 36) rfl rfl rfl rfl ?_
            refine wp_notu (tj := 36) rfl rfl rfl rfl ?_
            refine wp_notu (tj := 36) rfl rfl rfl rfl ?_
            refine wp_notuE (tj := 36) rfl rfl rfl rfl ?_
            refine wp_notu (tj := 36) rfl rfl rfl rfl ?_
            refine wp_not (tj := 33) (b := true) rfl rfl (congrArg AV.bool hb1) rfl rfl ?_
            refine wp_val (.bool true) rfl rfl (pv_pick (t := true) (congrArg AV.bool hb1) rfl) ?_
            refine wp_nil ?_
            refine wr_is [(0, (.int .i64 many)), (1, (.sl 3 (List.map rStatus l))), (5, (.int .i64 (j : Int))), (49, (.bool true))] (.cons rfl (.cons rfl (.cons rfl (.cons rfl .nil)))) ?_
            refine hJ true _ _ ?_
            exact ⟨rfl, rfl⟩
          · refine wp_valg (tj := 33) (.int .i64 (j : Int)) rfl rfl (congrArg AV.bool hb1) rfl pv_move ?_
            refine wp_valg (tj := 33) (.bool (decide ((j : Int) > 0))) rfl rfl (congrArg AV.bool hb1) rfl (pv_bin rfl rfl rfl) ?_
            refine wp_valg (tj := 33) (.bool (decide ((j : Int) > 0))) rfl rfl (congrArg AV.bool hb1) rfl pv_move ?_
            refine op_iteb (fun hb2 => ?_) (fun hb2 => ?_)
            · refine wp_valg (tj := 36) (.sl 3 (List.map rStatus l)) rfl rfl (congrArg AV.bool hb2) rfl pv_move ?_
              refine wp_valg (tj := 36) (.int .i64 (j : Int)) rfl rfl (congrArg AV.bool hb2) rfl pv_move ?_
              refine wp_valg (tj := 36) (.int .i64 (IntKind.wrap .i64 ((j : Int) - 1))) rfl rfl (congrArg AV.bool hb2) rfl (pv_bin rfl rfl rfl) ?_
              refine op_idx fun a1 hz hx1 => ?_
              refine wp_valg (tj := 36) (.cp (rStatus a1) 0) rfl rfl (congrArg AV.bool hb2) rfl (pv_ixa (ixa_sl ti22 ti24 rfl hz hx1)) ?_
              refine wp_valg (tj := 36) (.agg (rStatus a1)) rfl rfl (congrArg AV.bool hb2) rfl (pv_load (ld_cp ti24 rfl)) ?_
              refine wp_valg (tj := 36) (.sl 3 (List.map rStatus l)) rfl rfl (congrArg AV.bool hb2) rfl pv_move ?_
              refine wp_valg (tj := 36) (.int .i64 (j : Int)) rfl rfl (congrArg AV.bool hb2) rfl pv_move ?_
              refine wp_valg (tj := 36) (.cp (rStatus a) 0) rfl rfl (congrArg AV.bool hb2) rfl (pv_ixa (ixa_nat ti22 ti24 rfl ha)) ?_
              refine wp_valg (tj := 36) (.agg (rStatus a)) rfl rfl (congrArg AV.bool hb2) rfl (pv_load (ld_cp ti24 rfl)) ?_
              refine wp_call [(.agg (rStatus a1)), (.agg (rStatus a))] rfl (wanted_yes (tj := 36) rfl (congrArg AV.bool hb2)) rfl rfl rfl ((cp_ref26_before a1 a) _) (fun v _ _ _ => wu_pan Try.func15 hI) (pend_yes rfl (pend_yes rfl (pend_yes rfl (pend_yes rfl (pend_yes rfl (pend_yes rfl (pend_yes rfl (pend_yes rfl (pend_yes rfl (pend_yes rfl (pend_yes rfl (pend_yes rfl (pend_yes rfl (pend_yes rfl (pend_yes rfl (pend_yes rfl (pend_yes rfl (pend_yes rfl (pend_yes rfl (pend_yes rfl (pend_yes rfl (pend_yes rfl (pend_yes rfl (pend_yes rfl (pend_yes rfl (pend_yes rfl (pend_yes rfl (pend_yes rfl (pend_yes rfl pend_nil))))))))))))))))))))))))))))) fun r3 _ => ?_
              refine wp_valg (tj := 36) (.bool (!r3)) rfl rfl (congrArg AV.bool hb2) rfl (pv_un rfl) ?_
              refine wp_valg (tj := 33) (.bool (!r3)) rfl rfl (congrArg AV.bool hb1) rfl (pv_pick (t := true) (congrArg AV.bool hb2) rfl) ?_
              refine wp_val (.bool (!r3)) rfl rfl (pv_pick (t := false) (congrArg AV.bool hb1) rfl) ?_
              refine wp_nil ?_
              refine wr_is [(0, (.int .i64 many)), (1, (.sl 3 (List.map rStatus l))), (5, (.int .i64 (j : Int))), (49, (.bool (!r3)))] (.cons rfl (.cons rfl (.cons rfl (.cons rfl .nil)))) ?_
              refine hJ (!r3) _ _ ?_
              exact ⟨rfl, rfl⟩
            · refine wp_not (tj := 36) (b := false) rfl rfl (congrArg AV.bool hb2) rfl rfl ?_
              refine wp_not (tj := 36) (b := false) rfl rfl (congrArg AV.bool hb2) rfl rfl ?_
              refine wp_not (tj := 36) (b := false) rfl rfl (congrArg AV.bool hb2) rfl rfl ?_
              refine wp_not (tj := 36) (b := false) rfl rfl (congrArg AV.bool hb2) rfl rfl ?_
              refine wp_not (tj := 36) (b := false) rfl rfl (congrArg AV.bool hb2) rfl rfl ?_
              refine wp_not (tj := 36) (b := false) rfl rfl (congrArg AV.bool hb2) rfl rfl ?_
              refine wp_not (tj := 36) (b := false) rfl rfl (congrArg AV.bool hb2) rfl rfl ?_
              refine wp_not (tj := 36) (b := false) rfl rfl (congrArg AV.bool hb2) rfl rfl ?_
              refine wp_not (tj := 36) (b := false) rfl rfl (congrArg AV.bool hb2) rfl rfl ?_
              refine wp_notE (tj := 36) (b := false) rfl rfl (congrArg AV.bool hb2) rfl rfl ?_
              refine wp_not (tj := 36) (b := false) rfl rfl (congrArg AV.bool hb2) rfl rfl ?_
              refine wp_valg (tj := 33) (.bool false) rfl rfl (congrArg AV.bool hb1) rfl (pv_pick (t := false) (congrArg AV.bool hb2) rfl) ?_
              refine wp_val (.bool false) rfl rfl (pv_pick (t := false) (congrArg AV.bool hb1) rfl) ?_
              refine wp_nil ?_
              refine wr_is [(0, (.int .i64 many)), (1, (.sl 3 (List.map rStatus l))), (5, (.int .i64 (j : Int))), (49, (.bool false))] (.cons rfl (.cons rfl (.cons rfl (.cons rfl .nil)))) ?_
              refine hJ false _ _ ?_
              exact ⟨rfl, rfl⟩
    · rintro _ fr h ⟨rfl, rfl⟩
      refine wr_mod (alt_inl _ _ _) ?_
      refine wr_seq ?_
      refine wr_seq ?_
      refine wr_region ?_
      refine wo_val (.int .i64 (l.length : Int)) rfl pv_move ?_
      refine wo_val (.sl 3 (List.map rStatus l)) rfl pv_move ?_
      refine wo_val (.int .i64 (l.length : Int)) rfl (pv_len (len_sl ti22)) ?_
      refine wo_val (.bool (decide ((l.length : Int) < (l.length : Int)))) rfl (pv_bin rfl rfl rfl) ?_
      refine wo_nil ?_
      refine wr_condF rfl (Int.lt_irrefl _) ?_
      refine wr_exit rfl ?_
      refine wr_seq ?_
      refine wr_region ?_
      refine wo_val (.int .i64 0) rfl pv_assign ?_
      refine wo_nil ?_
      exact wr_ret (a := 0) (vs := [(.int .i64 0)]) Try.func15 hI rfl (.same _)
  · refine wr_seq ?_
    refine wr_region ?_
    refine wo_val (.int .i64 260) rfl pv_assign ?_
    refine wo_nil ?_
    exact wr_ret (a := 260) (vs := [(.int .i64 260)]) Try.func15 hI rfl (.same _)

theorem cp_ref26_Add (many : Int) (l : (List Status)) (s : Status) : CP Try.prog 12 [(.int .i64 many), (.sl 3 (List.map rStatus l)), (.agg (rStatus s))] (ref26_Add many l s) (fun (p : ((List Status) × Int)) => AV.tup [(.sl 3 (List.map rStatus p.1)), (.int .i64 p.2)]) := by
  refine cp_intro (n := 63) 2 Try.func12 rfl (by decide) rfl rfl fun h0 ids hI => ?_
  refine wr_in (wr_mod (ref26_Add.eq_1 _ _ _) ?_)
  refine wr_seq ?_
  refine wr_region ?_
  refine wo_box (v := (.agg (rStatus s))) (j := 0) hI rfl rfl rfl rfl rfl rfl rfl fun g => ?_
  refine wo_val .emp rfl pv_assign ?_
  refine wo_val (.int .i64 0) rfl pv_assign ?_
  refine wo_nil ?_
  refine wr_hp [(some (.rows g 3 [(rStatus s)])), none] rfl ?_
  refine wr_seq ?_
  refine wr_seq ?_
  refine wr_region ?_
  refine wo_val (.int .i64 many) rfl pv_move ?_
  refine wo_val (.sl 3 (List.map rStatus l)) rfl pv_move ?_
  refine of_call [(.int .i64 many), (.sl 3 (List.map rStatus l))] rfl rfl rfl rfl ((cp_ref26_Check many l) _) (fun v _ => wu_pan Try.func12 hI) fun r _ => ?_
  refine wo_val (.bool (r != 0)) rfl (pv_bin rfl rfl rfl) ?_
  refine wo_val (.bool (r != 0)) rfl pv_move ?_
  refine wo_join 6 ((fun (b : Bool) => if b then
(.ok ([], 260))
else
((loop (fun n => ref26_Add_b1 l s n) 0).bind (fun n1 => ref26_Add_j5 l s n1))) : Bool → R ((List Status) × Int)) (fun (b : Bool) (fr : Nat → AV) (h : AHeap) => fr = frA [(1, (.sl 3 (List.map rStatus l))), (5, (.ptr (ix ids 0) g 0 0)), (20, (.bool b))] ∧ h = hp h0 ids [(some (.rows g 3 [(rStatus s)])), none]) ?_ fun hJ => of_if1 (fun hb1 => ?_) (fun hb1 => ?_)
  · rintro b fr h ⟨rfl, rfl⟩
    refine wo_nil ?_
    refine wf_iteb rfl (fun hc => ?_) (fun hc => ?_)
    · refine wr_seq ?_
      refine wr_region ?_
      refine wo_val .emp rfl pv_assign ?_
      refine wo_val (.int .i64 260) rfl pv_assign ?_
      refine wo_nil ?_
      exact wr_ret (a := ([], 260)) (vs := [.emp, (.int .i64 260)]) Try.func12 hI rfl (.tupL (.cons (.emp _) (.cons (.same _) .nil)))
    · refine wr_skip ?_
      refine wr_seq ?_
      refine wr_region ?_
      refine wo_val (.int .i64 0) rfl pv_assign ?_
      refine wo_nil ?_
      refine wr_seq ?_
      refine wf_join (fun n1 => ref26_Add_j5 l s n1) (fun n1 => fun (fr : Nat → AV) (h : AHeap) => fr = frA [(1, (.sl 3 (List.map rStatus l))), (5, (.ptr (ix ids 0) g 0 0)), (8, (.int .i64 n1))] ∧ h = hp h0 ids [(some (.rows g 3 [(rStatus s)])), none]) ?_ fun hJ5 => ?_
      · rintro n1 fr h ⟨rfl, rfl⟩
        refine wr_mod (ref26_Add_j5.eq_1 _ _ _) ?_
        refine wr_seq ?_
        refine wr_region ?_
        refine wo_val (.int .i64 n1) rfl pv_move ?_
        refine wo_val (.int .i64 n1) rfl pv_assign ?_
        refine wo_nil ?_
        refine wr_seq ?_
        refine wr_seq ?_
        refine wf_join (fun x1 => ref26_Add_j4 l s n1 x1) (fun x1 => fun (fr : Nat → AV) (h : AHeap) => fr = frA [(1, (.sl 3 (List.map rStatus l))), (5, (.ptr (ix ids 0) g 0 0)), (8, (.int .i64 n1)), (9, (.int .i64 n1)), (48, (.bool x1))] ∧ h = hp h0 ids [(some (.rows g 3 [(rStatus s)])), none]) ?_ fun hJ4 => ?_
        · rintro x1 fr h ⟨rfl, rfl⟩
          refine wr_mod (ref26_Add_j4.eq_1 _ _ _ _) ?_
          refine wf_join (fun rest => ref26_Add_j3 l s n1 rest) (fun rest => fun (fr : Nat → AV) (h : AHeap) => fr = frA [(1, (.sl 3 (List.map rStatus l))), (5, (.ptr (ix ids 0) g 0 0)), (8, (.int .i64 n1)), (9, (.int .i64 rest))] ∧ h = hp h0 ids [(some (.rows g 3 [(rStatus s)])), none]) ?_ fun hJ3 => ?_
          · rintro rest fr h ⟨rfl, rfl⟩
            refine wr_mod (ref26_Add_j3.eq_1 _ _ _ _) ?_
            refine wr_seq ?_
            refine wf_join (fun x2 => ref26_Add_j2 x2) (fun x2 => fun (fr : Nat → AV) (h : AHeap) => ∃ (v9 : AV), ∃ (g10 : Nat), OwnV v9 (ix ids 1) g10 x2.length ∧ fr = frA [(6, v9), (7, (.int .i64 0))] ∧ h = hp h0 ids [none, (ownO v9 g10 3 (List.map rStatus x2))]) ?_ fun hJ2 => ?_
            · rintro x2 fr h ⟨v9, g10, vH9, rfl, rfl⟩
              refine wr_mod (ref26_Add_j2.eq_1 _) ?_
              exact wr_ret (a := (x2, 0)) (vs := [v9, (.int .i64 0)]) Try.func12 hI rfl (.tupL (.cons (own_fz vH9 (hI.at rfl rfl) (hI.out rfl) (fun x => ok_Status x)) (.cons (.same _) .nil)))
            · refine wr_drawT hmix (.node 6 4 (.leaf [[], [], [], [1, 2], [0, 1, 2, 3], [], [0, 1, 2, 3, 4, 5], [0, 1, 2, 3, 4, 5, 6], [], [], [8, 9], [0, 1, 2, 3, 4, 5, 6, 7, 8, 9, 10], [0, 1, 2, 3, 4, 5, 6, 7, 8, 9, 10, 11, 11, 11], [0, 1, 2, 3, 4, 5, 6, 7, 8, 9, 10, 11, 12, 12]] [(false, 1), (false, 2), (false, 3), (false, 5), (false, 8), (false, 9), (false, 10), (true, 0), (true, 4), (true, 6), (true, 7), (true, 11), (false, 12), (false, 13)]) (.node 6 0 (.leaf [[], [], [], [1, 2], [0, 1, 2, 3, 5, 6], [], [0, 5], [0, 1, 2, 3, 4, 5, 6], [], [], [8, 9], [0, 1, 2, 3, 4, 5, 6, 7, 8, 9, 10], [0, 1, 2, 3, 4, 5, 6, 7, 8, 9, 10, 11, 11, 11], [0, 1, 2, 3, 4, 5, 6, 7, 8, 9, 10, 11, 12, 12]] [(false, 1), (false, 2), (false, 3), (false, 5), (false, 8), (false, 9), (false, 10), (true, 0), (true, 6), (true, 4), (true, 7), (true, 11), (false, 12), (false, 13)]) (.leaf [[5, 6], [], [], [1, 2], [0, 1, 2, 3, 5, 6], [], [5], [0, 1, 2, 3, 4, 5, 6], [], [], [8, 9], [0, 1, 2, 3, 4, 5, 6, 7, 8, 9, 10], [0, 1, 2, 3, 4, 5, 6, 7, 8, 9, 10, 11, 11, 11], [0, 1, 2, 3, 4, 5, 6, 7, 8, 9, 10, 11, 12, 12]] [(false, 1), (false, 2), (false, 3), (false, 5), (false, 8), (false, 9), (false, 10), (true, 6), (true, 0), (true, 4), (true, 7), (true, 11), (false, 12), (false, 13)]))) (by kernel_rfl) ?_
              refine dt_node ?_ ?_
              · refine dt_leaf ?_
                refine wp_val (.sl 3 (List.map rStatus l)) rfl rfl pv_move ?_
                refine wp_val (.int .i64 n1) rfl rfl pv_move ?_
                refine op_need fun hs => ?_
                refine wp_val (.sl 3 (List.map rStatus (l.take (Int.toNat n1)))) rfl rfl (pv_slice (sl_slB ti22 ti24 rfl hs)) ?_
                refine wp_val (.agg (rStatus s)) rfl rfl (pv_load (ld_ptr hI rfl rfl rfl ti24 rfl)) ?_
                refine wp_val (.sl 3 (List.map rStatus l)) rfl rfl pv_move ?_
                refine wp_val (.int .i64 rest) rfl rfl pv_move ?_
                refine op_need fun hs1 => ?_
                refine wp_val (.sl 3 (List.map rStatus (l.drop (Int.toNat rest)))) rfl rfl (pv_slice (sl_slA ti22 ti24 rfl hs1)) ?_
                refine wp_op rfl rfl (fun _ _ => rfl) (fun K hK => eff_bs0 ti22 ti24 (hK _ _ (pend_no rfl (pv_slice (sl_slA ti22 ti24 rfl hs1)) (pend_no rfl pv_move (pend_no rfl pv_move (pend_no rfl (pv_load (ld_ptr hI rfl rfl rfl ti24 rfl)) (pend_no rfl (pv_slice (sl_slB ti22 ti24 rfl hs)) (pend_no rfl pv_move (pend_no rfl pv_move pend_nil))))))) ?_)) 
                clear hK K
                refine op_need fun hl => ?_
                refine wp_op rfl rfl (fun _ _ => rfl) (fun K hK => eff_append (e := rStatus) (L := ([] : List Status)) (L2 := (l.take (Int.toNat n1))) (v := .emp) (g := 0) (st := 3) (j := 1) hI rfl rfl rfl .nil rfl (src_sl rfl) ti22 ti22 rfl ti24 rfl rfl rfl (by simpa using hl) fun v g1 vH => hK _ _ (pend_no rfl (pv_slice (sl_slA ti22 ti24 rfl hs1)) (pend_no rfl pv_move (pend_no rfl pv_move (pend_no rfl (pv_load (ld_ptr hI rfl rfl rfl ti24 rfl)) (pend_yes rfl (pend_yes rfl (pend_yes rfl pend_nil))))))) ?_) 
                clear hK K
                refine wp_op rfl rfl (fun _ _ => rfl) (fun K hK => eff_bsC (e := rStatus) (L := [s]) (st := 3) (rows := [[(.int .i64 s.Station), (.int .i64 s.From), (.bool s.Works)]]) ti22 ti24 rfl rfl rfl rfl rfl (.cons (RowSim.refl _) .nil) (fun x => ok_Status x) rfl rfl (hK _ _ (pend_no rfl (pv_slice (sl_slA ti22 ti24 rfl hs1)) (pend_no rfl pv_move (pend_no rfl pv_move (pend_yes rfl (pend_yes rfl (pend_yes rfl (pend_yes rfl pend_nil))))))) ?_)) 
                clear hK K
                refine op_need fun hl1 => ?_
                refine wp_op rfl rfl (fun _ _ => rfl) (fun K hK => eff_append (e := rStatus) (L := (l.take (Int.toNat n1))) (L2 := [s]) (v := v) (g := g1) (st := 3) (j := 1) hI rfl rfl rfl vH rfl (src_sl rfl) ti22 ti22 rfl ti24 rfl rfl rfl hl1 fun v1 g2 vH1 => hK _ _ (pend_no rfl (pv_slice (sl_slA ti22 ti24 rfl hs1)) (pend_no rfl pv_move (pend_no rfl pv_move (pend_yes rfl (pend_yes rfl (pend_yes rfl (pend_yes rfl pend_nil))))))) ?_) 
                clear hK K
                refine op_need fun hl2 => ?_
                refine wp_op rfl rfl (fun _ _ => rfl) (fun K hK => eff_append (e := rStatus) (L := ((l.take (Int.toNat n1)) ++ [s])) (L2 := (l.drop (Int.toNat rest))) (v := v1) (g := g2) (st := 3) (j := 1) hI rfl rfl rfl vH1 rfl (src_sl rfl) ti22 ti22 rfl ti24 rfl rfl rfl hl2 fun v2 g3 vH2 => hK _ _ (pend_yes rfl (pend_yes rfl (pend_yes rfl (pend_yes rfl (pend_yes rfl (pend_yes rfl (pend_yes rfl pend_nil))))))) ?_) 
                clear hK K
                refine wp_val v2 rfl rfl pv_assign ?_
                refine wp_val (.int .i64 0) rfl rfl pv_assign ?_
                refine wp_nil ?_
                refine wr_hp [(some (.rows g 3 [(rStatus s)])), (ownO v2 g3 3 (List.map rStatus (((l.take (Int.toNat n1)) ++ [s]) ++ (l.drop (Int.toNat rest)))))] rfl ?_
                refine wr_drop [none, (ownO v2 g3 3 (List.map rStatus (((l.take (Int.toNat n1)) ++ [s]) ++ (l.drop (Int.toNat rest)))))] hI rfl (.drop (.keep .nil)) ?_
                refine wr_is [(6, v2), (7, (.int .i64 0))] (.cons rfl (.cons rfl .nil)) ?_
                refine hJ2 (((l.take (Int.toNat n1)) ++ [s]) ++ (l.drop (Int.toNat rest))) _ _ ?_
                exact ⟨v2, g3, vH2, rfl, rfl⟩
              · refine dt_node ?_ ?_
                · refine dt_leaf ?_
                  refine wp_val (.sl 3 (List.map rStatus l)) rfl rfl pv_move ?_
                  refine wp_val (.int .i64 n1) rfl rfl pv_move ?_
                  refine op_need fun hs2 => ?_
                  refine wp_val (.sl 3 (List.map rStatus (l.take (Int.toNat n1)))) rfl rfl (pv_slice (sl_slB ti22 ti24 rfl hs2)) ?_
                  refine wp_val (.agg (rStatus s)) rfl rfl (pv_load (ld_ptr hI rfl rfl rfl ti24 rfl)) ?_
                  refine wp_val (.sl 3 (List.map rStatus l)) rfl rfl pv_move ?_
                  refine wp_val (.int .i64 rest) rfl rfl pv_move ?_
                  refine op_need fun hs3 => ?_
                  refine wp_val (.sl 3 (List.map rStatus (l.drop (Int.toNat rest)))) rfl rfl (pv_slice (sl_slA ti22 ti24 rfl hs3)) ?_
                  refine wp_op rfl rfl (fun _ _ => rfl) (fun K hK => eff_bs0 ti22 ti24 (hK _ _ (pend_no rfl (pv_slice (sl_slA ti22 ti24 rfl hs3)) (pend_no rfl pv_move (pend_no rfl pv_move (pend_no rfl (pv_load (ld_ptr hI rfl rfl rfl ti24 rfl)) (pend_no rfl (pv_slice (sl_slB ti22 ti24 rfl hs2)) (pend_no rfl pv_move (pend_no rfl pv_move pend_nil))))))) ?_)) 
                  clear hK K
                  refine wp_op rfl rfl (fun _ _ => rfl) (fun K hK => eff_bsC (e := rStatus) (L := [s]) (st := 3) (rows := [[(.int .i64 s.Station), (.int .i64 s.From), (.bool s.Works)]]) ti22 ti24 rfl rfl rfl rfl rfl (.cons (RowSim.refl _) .nil) (fun x => ok_Status x) rfl rfl (hK _ _ (pend_no rfl (pv_slice (sl_slA ti22 ti24 rfl hs3)) (pend_no rfl pv_move (pend_no rfl pv_move (pend_yes rfl (pend_no rfl (pv_slice (sl_slB ti22 ti24 rfl hs2)) (pend_no rfl pv_move (pend_no rfl pv_move pend_nil))))))) ?_)) 
                  clear hK K
                  refine op_need fun hl3 => ?_
                  refine wp_op rfl rfl (fun _ _ => rfl) (fun K hK => eff_append (e := rStatus) (L := ([] : List Status)) (L2 := (l.take (Int.toNat n1))) (v := .emp) (g := 0) (st := 3) (j := 1) hI rfl rfl rfl .nil rfl (src_sl rfl) ti22 ti22 rfl ti24 rfl rfl rfl (by simpa using hl3) fun v3 g4 vH3 => hK _ _ (pend_no rfl (pv_slice (sl_slA ti22 ti24 rfl hs3)) (pend_no rfl pv_move (pend_no rfl pv_move (pend_yes rfl (pend_yes rfl (pend_yes rfl (pend_yes rfl pend_nil))))))) ?_) 
                  clear hK K
                  refine op_need fun hl4 => ?_
                  refine wp_op rfl rfl (fun _ _ => rfl) (fun K hK => eff_append (e := rStatus) (L := (l.take (Int.toNat n1))) (L2 := [s]) (v := v3) (g := g4) (st := 3) (j := 1) hI rfl rfl rfl vH3 rfl (src_sl rfl) ti22 ti22 rfl ti24 rfl rfl rfl hl4 fun v4 g5 vH4 => hK _ _ (pend_no rfl (pv_slice (sl_slA ti22 ti24 rfl hs3)) (pend_no rfl pv_move (pend_no rfl pv_move (pend_yes rfl (pend_yes rfl (pend_yes rfl (pend_yes rfl pend_nil))))))) ?_) 
                  clear hK K
                  refine op_need fun hl5 => ?_
                  refine wp_op rfl rfl (fun _ _ => rfl) (fun K hK => eff_append (e := rStatus) (L := ((l.take (Int.toNat n1)) ++ [s])) (L2 := (l.drop (Int.toNat rest))) (v := v4) (g := g5) (st := 3) (j := 1) hI rfl rfl rfl vH4 rfl (src_sl rfl) ti22 ti22 rfl ti24 rfl rfl rfl hl5 fun v5 g6 vH5 => hK _ _ (pend_yes rfl (pend_yes rfl (pend_yes rfl (pend_yes rfl (pend_yes rfl (pend_yes rfl (pend_yes rfl pend_nil))))))) ?_) 
                  clear hK K
                  refine wp_val v5 rfl rfl pv_assign ?_
                  refine wp_val (.int .i64 0) rfl rfl pv_assign ?_
                  refine wp_nil ?_
                  refine wr_hp [(some (.rows g 3 [(rStatus s)])), (ownO v5 g6 3 (List.map rStatus (((l.take (Int.toNat n1)) ++ [s]) ++ (l.drop (Int.toNat rest)))))] rfl ?_
                  refine wr_drop [none, (ownO v5 g6 3 (List.map rStatus (((l.take (Int.toNat n1)) ++ [s]) ++ (l.drop (Int.toNat rest)))))] hI rfl (.drop (.keep .nil)) ?_
                  refine wr_is [(6, v5), (7, (.int .i64 0))] (.cons rfl (.cons rfl .nil)) ?_
                  refine hJ2 (((l.take (Int.toNat n1)) ++ [s]) ++ (l.drop (Int.toNat rest))) _ _ ?_
                  exact ⟨v5, g6, vH5, rfl, rfl⟩
                · refine dt_leaf ?_
                  refine wp_val (.sl 3 (List.map rStatus l)) rfl rfl pv_move ?_
                  refine wp_val (.int .i64 n1) rfl rfl pv_move ?_
                  refine op_need fun hs4 => ?_
                  refine wp_val (.sl 3 (List.map rStatus (l.take (Int.toNat n1)))) rfl rfl (pv_slice (sl_slB ti22 ti24 rfl hs4)) ?_
                  refine wp_val (.agg (rStatus s)) rfl rfl (pv_load (ld_ptr hI rfl rfl rfl ti24 rfl)) ?_
                  refine wp_val (.sl 3 (List.map rStatus l)) rfl rfl pv_move ?_
                  refine wp_val (.int .i64 rest) rfl rfl pv_move ?_
                  refine op_need fun hs5 => ?_
                  refine wp_val (.sl 3 (List.map rStatus (l.drop (Int.toNat rest)))) rfl rfl (pv_slice (sl_slA ti22 ti24 rfl hs5)) ?_
                  refine wp_op rfl rfl (fun _ _ => rfl) (fun K hK => eff_bsC (e := rStatus) (L := [s]) (st := 3) (rows := [[(.int .i64 s.Station), (.int .i64 s.From), (.bool s.Works)]]) ti22 ti24 rfl rfl rfl rfl rfl (.cons (RowSim.refl _) .nil) (fun x => ok_Status x) rfl rfl (hK _ _ (pend_no rfl (pv_slice (sl_slA ti22 ti24 rfl hs5)) (pend_no rfl pv_move (pend_no rfl pv_move (pend_yes rfl (pend_no rfl (pv_slice (sl_slB ti22 ti24 rfl hs4)) (pend_no rfl pv_move (pend_no rfl pv_move pend_nil))))))) ?_)) 
                  clear hK K
                  refine wp_op rfl rfl (fun _ _ => rfl) (fun K hK => eff_bs0 ti22 ti24 (hK _ _ (pend_no rfl (pv_slice (sl_slA ti22 ti24 rfl hs5)) (pend_no rfl pv_move (pend_no rfl pv_move (pend_yes rfl (pend_no rfl (pv_slice (sl_slB ti22 ti24 rfl hs4)) (pend_no rfl pv_move (pend_no rfl pv_move pend_nil))))))) ?_)) 
                  clear hK K
                  refine op_need fun hl6 => ?_
                  refine wp_op rfl rfl (fun _ _ => rfl) (fun K hK => eff_append (e := rStatus) (L := ([] : List Status)) (L2 := (l.take (Int.toNat n1))) (v := .emp) (g := 0) (st := 3) (j := 1) hI rfl rfl rfl .nil rfl (src_sl rfl) ti22 ti22 rfl ti24 rfl rfl rfl (by simpa using hl6) fun v6 g7 vH6 => hK _ _ (pend_no rfl (pv_slice (sl_slA ti22 ti24 rfl hs5)) (pend_no rfl pv_move (pend_no rfl pv_move (pend_yes rfl (pend_yes rfl (pend_yes rfl (pend_yes rfl pend_nil))))))) ?_) 
                  clear hK K
                  refine op_need fun hl7 => ?_
                  refine wp_op rfl rfl (fun _ _ => rfl) (fun K hK => eff_append (e := rStatus) (L := (l.take (Int.toNat n1))) (L2 := [s]) (v := v6) (g := g7) (st := 3) (j := 1) hI rfl rfl rfl vH6 rfl (src_sl rfl) ti22 ti22 rfl ti24 rfl rfl rfl hl7 fun v7 g8 vH7 => hK _ _ (pend_no rfl (pv_slice (sl_slA ti22 ti24 rfl hs5)) (pend_no rfl pv_move (pend_no rfl pv_move (pend_yes rfl (pend_yes rfl (pend_yes rfl (pend_yes rfl pend_nil))))))) ?_) 
                  clear hK K
                  refine op_need fun hl8 => ?_
                  refine wp_op rfl rfl (fun _ _ => rfl) (fun K hK => eff_append (e := rStatus) (L := ((l.take (Int.toNat n1)) ++ [s])) (L2 := (l.drop (Int.toNat rest))) (v := v7) (g := g8) (st := 3) (j := 1) hI rfl rfl rfl vH7 rfl (src_sl rfl) ti22 ti22 rfl ti24 rfl rfl rfl hl8 fun v8 g9 vH8 => hK _ _ (pend_yes rfl (pend_yes rfl (pend_yes rfl (pend_yes rfl (pend_yes rfl (pend_yes rfl (pend_yes rfl pend_nil))))))) ?_) 
                  clear hK K
                  refine wp_val v8 rfl rfl pv_assign ?_
                  refine wp_val (.int .i64 0) rfl rfl pv_assign ?_
                  refine wp_nil ?_
                  refine wr_hp [(some (.rows g 3 [(rStatus s)])), (ownO v8 g9 3 (List.map rStatus (((l.take (Int.toNat n1)) ++ [s]) ++ (l.drop (Int.toNat rest)))))] rfl ?_
                  refine wr_drop [none, (ownO v8 g9 3 (List.map rStatus (((l.take (Int.toNat n1)) ++ [s]) ++ (l.drop (Int.toNat rest)))))] hI rfl (.drop (.keep .nil)) ?_
                  refine wr_is [(6, v8), (7, (.int .i64 0))] (.cons rfl (.cons rfl .nil)) ?_
                  refine hJ2 (((l.take (Int.toNat n1)) ++ [s]) ++ (l.drop (Int.toNat rest))) _ _ ?_
                  exact ⟨v8, g9, vH8, rfl, rfl⟩
          · refine wf_iteb rfl (fun hc2 => ?_) (fun hc2 => ?_)
            · refine wr_region ?_
              refine wo_val (.int .i64 n1) rfl pv_move ?_
              refine wo_val (.int .i64 (IntKind.wrap .i64 (n1 + 1))) rfl (pv_bin rfl rfl rfl) ?_
              refine wo_val (.int .i64 (IntKind.wrap .i64 (n1 + 1))) rfl pv_assign ?_
              refine wo_nil ?_
              refine wr_is [(1, (.sl 3 (List.map rStatus l))), (5, (.ptr (ix ids 0) g 0 0)), (8, (.int .i64 n1)), (9, (.int .i64 (IntKind.wrap .i64 (n1 + 1))))] (.cons rfl (.cons rfl (.cons rfl (.cons rfl .nil)))) ?_
              refine hJ3 (IntKind.wrap .i64 (n1 + 1)) _ _ ?_
              exact ⟨rfl, rfl⟩
            · refine wr_skip ?_
              refine wr_is [(1, (.sl 3 (List.map rStatus l))), (5, (.ptr (ix ids 0) g 0 0)), (8, (.int .i64 n1)), (9, (.int .i64 n1))] (.cons rfl (.cons rfl (.cons rfl (.cons rfl .nil)))) ?_
              refine hJ3 n1 _ _ ?_
              exact ⟨rfl, rfl⟩
        · refine wr_draw hmix [[], [], [1], [0, 1, 2], [0, 1, 2, 3], [0, 1, 2, 3, 4], [0, 1, 2, 3, 4], [0, 1, 2, 3, 4], [0, 1, 2, 3, 4, 6, 7], [0, 1, 2, 3, 4, 6, 7, 8], [0, 1, 2, 3, 4, 5, 6, 7, 8, 9], [0, 1, 2, 3, 4, 5, 6, 7, 8, 9, 10], [0, 1, 2, 3, 4, 5, 6, 7, 8, 9, 10, 11]] [(false, 0), (false, 1), (false, 2), (false, 3), (false, 4), (false, 5), (false, 6), (false, 7), (false, 8), (false, 9), (true, 10), (false, 11), (false, 12)] (by kernel_rfl) ?_
          refine wp_val (.int .i64 n1) rfl rfl pv_move ?_
          refine wp_val (.sl 3 (List.map rStatus l)) rfl rfl pv_move ?_
          refine wp_val (.int .i64 (l.length : Int)) rfl rfl (pv_len (len_sl ti22)) ?_
          refine wp_val (.bool (decide (n1 < (l.length : Int)))) rfl rfl (pv_bin rfl rfl rfl) ?_
          refine wp_val (.bool (decide (n1 < (l.length : Int)))) rfl rfl pv_move ?_
          refine op_iteb (fun hb3 => ?_) (fun hb3 => ?_)
          · refine wp_valg (tj := 40) (.agg (rStatus s)) rfl rfl (congrArg AV.bool hb3) rfl (pv_load (ld_ptr hI rfl rfl rfl ti24 rfl)) ?_
            refine wp_valg (tj := 40) (.sl 3 (List.map rStatus l)) rfl rfl (congrArg AV.bool hb3) rfl pv_move ?_
            refine wp_valg (tj := 40) (.int .i64 n1) rfl rfl (congrArg AV.bool hb3) rfl pv_move ?_
            refine op_idx fun a1 hz1 hx2 => ?_
            refine wp_valg (tj := 40) (.cp (rStatus a1) 0) rfl rfl (congrArg AV.bool hb3) rfl (pv_ixa (ixa_sl ti22 ti24 rfl hz1 hx2)) ?_
            refine wp_valg (tj := 40) (.agg (rStatus a1)) rfl rfl (congrArg AV.bool hb3) rfl (pv_load (ld_cp ti24 rfl)) ?_
            refine wp_call [(.agg (rStatus s)), (.agg (rStatus a1))] rfl (wanted_yes (tj := 40) rfl (congrArg AV.bool hb3)) rfl rfl rfl ((cp_ref26_before s a1) _) (fun v _ _ _ => wu_pan Try.func12 hI) (pend_yes rfl (pend_yes rfl (pend_yes rfl (pend_yes rfl (pend_yes rfl (pend_yes rfl (pend_yes rfl (pend_yes rfl (pend_yes rfl (pend_yes rfl pend_nil)))))))))) fun r3 _ => ?_
            refine wp_valg (tj := 40) (.bool (!r3)) rfl rfl (congrArg AV.bool hb3) rfl (pv_un rfl) ?_
            refine wp_val (.bool (!r3)) rfl rfl (pv_pick (t := true) (congrArg AV.bool hb3) rfl) ?_
            refine wp_nil ?_
            refine wr_is [(1, (.sl 3 (List.map rStatus l))), (5, (.ptr (ix ids 0) g 0 0)), (8, (.int .i64 n1)), (9, (.int .i64 n1)), (48, (.bool (!r3)))] (.cons rfl (.cons rfl (.cons rfl (.cons rfl (.cons rfl .nil))))) ?_
            refine hJ4 (!r3) _ _ ?_
            exact ⟨rfl, rfl⟩
          · refine wp_not (tj := 40) (b := false) rfl rfl (congrArg AV.bool hb3) rfl rfl ?_
            refine wp_not (tj := 40) (b := false) rfl rfl (congrArg AV.bool hb3) rfl rfl ?_
            refine wp_not (tj := 40) (b := false) rfl rfl (congrArg AV.bool hb3) rfl rfl ?_
            refine wp_not (tj := 40) (b := false) rfl rfl (congrArg AV.bool hb3) rfl rfl ?_
            refine wp_not (tj := 40) (b := false) rfl rfl (congrArg AV.bool hb3) rfl rfl ?_
            refine wp_notE (tj := 40) (b := false) rfl rfl (congrArg AV.bool hb3) rfl rfl ?_
            refine wp_not (tj := 40) (b := false) rfl rfl (congrArg AV.bool hb3) rfl rfl ?_
            refine wp_val (.bool false) rfl rfl (pv_pick (t := false) (congrArg AV.bool hb3) rfl) ?_
            refine wp_nil ?_
            refine wr_is [(1, (.sl 3 (List.map rStatus l))), (5, (.ptr (ix ids 0) g 0 0)), (8, (.int .i64 n1)), (9, (.int .i64 n1)), (48, (.bool false))] (.cons rfl (.cons rfl (.cons rfl (.cons rfl (.cons rfl .nil))))) ?_
            refine hJ4 false _ _ ?_
            exact ⟨rfl, rfl⟩
      · refine wr_block ?_
        refine wr_is [(1, (.sl 3 (List.map rStatus l))), (5, (.ptr (ix ids 0) g 0 0)), (8, (.int .i64 0))] (.cons rfl (.cons rfl (.cons rfl .nil))) ?_
        refine wf_loop' (P := Try.prog) (fun n => ref26_Add_b1 l s n) ((fun n1 => ref26_Add_j5 l s n1) : Int → R ((List Status) × Int))
          (fun n => fun (fr : Nat → AV) (h : AHeap) => fr = frA [(1, (.sl 3 (List.map rStatus l))), (5, (.ptr (ix ids 0) g 0 0)), (8, (.int .i64 n))] ∧ h = hp h0 ids [(some (.rows g 3 [(rStatus s)])), none]) 0 ?_ ?_
        · exact ⟨rfl, rfl⟩
        · rintro vW hW n fr h ⟨rfl, rfl⟩
          refine wr_mod (m' := ref26_Add_b1 l s n) rfl (wr_mod (ref26_Add_b1.eq_1 _ _ _) ?_)
          refine wr_seq ?_
          refine wr_seq ?_
          refine wf_join (fun x => ref26_Add_j1 n x) (fun x => fun (fr : Nat → AV) (h : AHeap) => fr = frA [(1, (.sl 3 (List.map rStatus l))), (5, (.ptr (ix ids 0) g 0 0)), (8, (.int .i64 n)), (32, (.bool x))] ∧ h = hp h0 ids [(some (.rows g 3 [(rStatus s)])), none]) ?_ fun hJ1 => ?_
          · rintro x fr h ⟨rfl, rfl⟩
            refine wr_mod (ref26_Add_j1.eq_1 _ _) ?_
            refine wf_iteb rfl (fun hc1 => ?_) (fun hc1 => ?_)
            · refine wr_skip ?_
              refine wr_block ?_
              refine wr_region ?_
              refine wo_val (.int .i64 n) rfl pv_move ?_
              refine wo_val (.int .i64 (IntKind.wrap .i64 (n + 1))) rfl (pv_bin rfl rfl rfl) ?_
              refine wo_val (.int .i64 (IntKind.wrap .i64 (n + 1))) rfl pv_assign ?_
              refine wo_nil ?_
              refine wr_inBlock ?_
              refine wr_is [(1, (.sl 3 (List.map rStatus l))), (5, (.ptr (ix ids 0) g 0 0)), (8, (.int .i64 (IntKind.wrap .i64 (n + 1))))] (.cons rfl (.cons rfl (.cons rfl .nil))) ?_
              refine wb_loop ?_
              refine hW (IntKind.wrap .i64 (n + 1)) _ _ ?_
              exact ⟨rfl, rfl⟩
            · refine wr_exit rfl ?_
              refine wx_loop ?_
              refine wr_is [(1, (.sl 3 (List.map rStatus l))), (5, (.ptr (ix ids 0) g 0 0)), (8, (.int .i64 n))] (.cons rfl (.cons rfl (.cons rfl .nil))) ?_
              refine hJ5 n _ _ ?_
              exact ⟨rfl, rfl⟩
          · refine wr_draw hmix [[], [], [1], [0, 1, 2], [0, 1, 2, 3], [0, 1, 2, 3, 4], [0, 1, 2, 3, 4], [0, 1, 2, 3, 4, 5, 6], [0, 1, 2, 3, 4, 5, 6, 7], [0, 1, 2, 3, 4], [0, 1, 2, 3, 4, 5, 6, 7, 8, 9], [0, 1, 2, 3, 4, 5, 6, 7, 8, 9, 10]] [(false, 0), (false, 1), (false, 2), (false, 3), (false, 4), (false, 5), (false, 6), (false, 7), (false, 8), (false, 9), (true, 10), (false, 11)] (by kernel_rfl) ?_
            refine wp_val (.int .i64 n) rfl rfl pv_move ?_
            refine wp_val (.sl 3 (List.map rStatus l)) rfl rfl pv_move ?_
            refine wp_val (.int .i64 (l.length : Int)) rfl rfl (pv_len (len_sl ti22)) ?_
            refine wp_val (.bool (decide (n < (l.length : Int)))) rfl rfl (pv_bin rfl rfl rfl) ?_
            refine wp_val (.bool (decide (n < (l.length : Int)))) rfl rfl pv_move ?_
            refine op_iteb (fun hb2 => ?_) (fun hb2 => ?_)
            · refine wp_valg (tj := 25) (.sl 3 (List.map rStatus l)) rfl rfl (congrArg AV.bool hb2) rfl pv_move ?_
              refine wp_valg (tj := 25) (.int .i64 n) rfl rfl (congrArg AV.bool hb2) rfl pv_move ?_
              refine op_idx fun a hz hx1 => ?_
              refine wp_valg (tj := 25) (.cp (rStatus a) 0) rfl rfl (congrArg AV.bool hb2) rfl (pv_ixa (ixa_sl ti22 ti24 rfl hz hx1)) ?_
              refine wp_valg (tj := 25) (.agg (rStatus a)) rfl rfl (congrArg AV.bool hb2) rfl (pv_load (ld_cp ti24 rfl)) ?_
              refine wp_valg (tj := 25) (.agg (rStatus s)) rfl rfl (congrArg AV.bool hb2) rfl (pv_load (ld_ptr hI rfl rfl rfl ti24 rfl)) ?_
              refine wp_call [(.agg (rStatus a)), (.agg (rStatus s))] rfl (wanted_yes (tj := 25) rfl (congrArg AV.bool hb2)) rfl rfl rfl ((cp_ref26_before a s) _) (fun v _ _ _ => wu_pan Try.func12 hI) (pend_yes rfl (pend_yes rfl (pend_yes rfl (pend_yes rfl (pend_yes rfl (pend_yes rfl (pend_yes rfl (pend_yes rfl (pend_yes rfl (pend_yes rfl pend_nil)))))))))) fun r2 _ => ?_
              refine wp_val (.bool r2) rfl rfl (pv_pick (t := true) (congrArg AV.bool hb2) rfl) ?_
              refine wp_nil ?_
              refine wr_is [(1, (.sl 3 (List.map rStatus l))), (5, (.ptr (ix ids 0) g 0 0)), (8, (.int .i64 n)), (32, (.bool r2))] (.cons rfl (.cons rfl (.cons rfl (.cons rfl .nil)))) ?_
              refine hJ1 r2 _ _ ?_
              exact ⟨rfl, rfl⟩
            · refine wp_not (tj := 25) (b := false) rfl rfl (congrArg AV.bool hb2) rfl rfl ?_
              refine wp_not (tj := 25) (b := false) rfl rfl (congrArg AV.bool hb2) rfl rfl ?_
              refine wp_not (tj := 25) (b := false) rfl rfl (congrArg AV.bool hb2) rfl rfl ?_
              refine wp_not (tj := 25) (b := false) rfl rfl (congrArg AV.bool hb2) rfl rfl ?_
              refine wp_not (tj := 25) (b := false) rfl rfl (congrArg AV.bool hb2) rfl rfl ?_
              refine wp_notE (tj := 25) (b := false) rfl rfl (congrArg AV.bool hb2) rfl rfl ?_
              refine wp_val (.bool false) rfl rfl (pv_pick (t := false) (congrArg AV.bool hb2) rfl) ?_
              refine wp_nil ?_
              refine wr_is [(1, (.sl 3 (List.map rStatus l))), (5, (.ptr (ix ids 0) g 0 0)), (8, (.int .i64 n)), (32, (.bool false))] (.cons rfl (.cons rfl (.cons rfl (.cons rfl .nil)))) ?_
              refine hJ1 false _ _ ?_
              exact ⟨rfl, rfl⟩
  · refine wo_not (tj := 14) (b := true) rfl (congrArg AV.bool hb1) rfl rfl ?_
    refine wo_not (tj := 14) (b := true) rfl (congrArg AV.bool hb1) rfl rfl ?_
    refine wo_not (tj := 14) (b := true) rfl (congrArg AV.bool hb1) rfl rfl ?_
    refine wo_not (tj := 14) (b := true) rfl (congrArg AV.bool hb1) rfl rfl ?_
    refine wo_not (tj := 14) (b := true) rfl (congrArg AV.bool hb1) rfl rfl ?_
    refine wo_val (.bool true) rfl (pv_pick (t := true) (congrArg AV.bool hb1) rfl) ?_
    refine wo_back1 ?_
    refine wo_is [(1, (.sl 3 (List.map rStatus l))), (5, (.ptr (ix ids 0) g 0 0)), (20, (.bool true))] (.cons rfl (.cons rfl (.cons rfl .nil))) ?_
    exact hJ true _ _ ⟨rfl, rfl⟩
  · refine wo_valg (tj := 14) (.int .i64 many) rfl (congrArg AV.bool hb1) rfl pv_move ?_
    refine wo_valg (tj := 14) (.agg (rStatus s)) rfl (congrArg AV.bool hb1) rfl (pv_load (ld_ptr hI rfl rfl rfl ti24 rfl)) ?_
    refine wo_opg (tj := 14) rfl (congrArg AV.bool hb1) rfl (fun _ _ => rfl) (fun K hK => eff_bsC (e := rStatus) (L := [s]) (st := 3) (rows := [[(.int .i64 s.Station), (.int .i64 s.From), (.bool s.Works)]]) ti22 ti24 rfl rfl rfl rfl rfl (.cons (RowSim.refl _) .nil) (fun x => ok_Status x) rfl rfl (hK _ _ ?_)) 
    clear hK K
    refine of_call [(.int .i64 many), (.sl 3 (List.map rStatus [s]))] rfl (wanted_yes (tj := 14) rfl (congrArg AV.bool hb1)) rfl rfl ((cp_ref26_Check many [s]) _) (fun v _ => wu_pan Try.func12 hI) fun r1 _ => ?_
    refine wo_valg (tj := 14) (.bool (r1 != 0)) rfl (congrArg AV.bool hb1) rfl (pv_bin rfl rfl rfl) ?_
    refine wo_val (.bool (r1 != 0)) rfl (pv_pick (t := false) (congrArg AV.bool hb1) rfl) ?_
    refine wo_back1 ?_
    refine wo_is [(1, (.sl 3 (List.map rStatus l))), (5, (.ptr (ix ids 0) g 0 0)), (20, (.bool (r1 != 0)))] (.cons rfl (.cons rfl (.cons rfl .nil))) ?_
    exact hJ (r1 != 0) _ _ ⟨rfl, rfl⟩

theorem cp_ref26_Same (a : (List Status)) (b : (List Status)) : CP Try.prog 13 [(.sl 3 (List.map rStatus a)), (.sl 3 (List.map rStatus b))] (ref26_Same a b) (fun (x : Bool) => (AV.bool x)) := by
  refine cp_intro (n := 26) 0 Try.func13 rfl (by decide) rfl rfl fun h0 ids hI => ?_
  refine wr_in (wr_mod (ref26_Same.eq_1 _ _) ?_)
  refine wr_seq ?_
  refine wr_region ?_
  refine wo_val (.bool false) rfl pv_assign ?_
  refine wo_nil ?_
  refine wr_seq ?_
  refine wr_seq ?_
  refine wr_region ?_
  refine wo_val (.sl 3 (List.map rStatus a)) rfl pv_move ?_
  refine wo_val (.int .i64 (a.length : Int)) rfl (pv_len (len_sl ti22)) ?_
  refine wo_val (.sl 3 (List.map rStatus b)) rfl pv_move ?_
  refine wo_val (.int .i64 (b.length : Int)) rfl (pv_len (len_sl ti22)) ?_
  refine wo_val (.bool ((a.length : Int) != (b.length : Int))) rfl (pv_bin rfl rfl rfl) ?_
  refine wo_nil ?_
  refine wf_iteb rfl (fun hc => ?_) (fun hc => ?_)
  · refine wr_seq ?_
    refine wr_region ?_
    refine wo_val (.bool false) rfl pv_assign ?_
    refine wo_nil ?_
    exact wr_ret (a := false) (vs := [(.bool false)]) Try.func13 hI rfl (.same _)
  · refine wr_skip ?_
    refine wr_seq ?_
    refine wr_seq ?_
    refine wr_region ?_
    refine wo_val (.int .i64 0) rfl pv_assign ?_
    refine wo_nil ?_
    refine wr_block ?_
    refine wr_is [(0, (.sl 3 (List.map rStatus a))), (1, (.sl 3 (List.map rStatus b))), (5, (.int .i64 0))] (.cons rfl (.cons rfl (.cons rfl .nil))) ?_
    refine wf_each' (P := Try.prog) a (fun j a1 => fun _ => ref26_Same_b1 b j a1) ((alt (fun _ => .ok true) (fun r => .ok r)) : (Unit ⊕ Bool) → R Bool)
      (fun j => fun _ => fun (fr : Nat → AV) (h : AHeap) => fr = frA [(0, (.sl 3 (List.map rStatus a))), (1, (.sl 3 (List.map rStatus b))), (5, (.int .i64 (j : Int)))] ∧ h = hp h0 ids []) () ?_ ?_ ?_
    · exact ⟨rfl, rfl⟩
    · rintro j a1 ha1 W hW _ fr h ⟨rfl, rfl⟩
      refine wr_mod (m' := ref26_Same_b1 b j a1) rfl (wr_mod (ref26_Same_b1.eq_1 _ _ _) ?_)
      refine wr_seq ?_
      refine wr_seq ?_
      refine wr_region ?_
      refine wo_val (.int .i64 (j : Int)) rfl pv_move ?_
      refine wo_val (.sl 3 (List.map rStatus a)) rfl pv_move ?_
      refine wo_val (.int .i64 (a.length : Int)) rfl (pv_len (len_sl ti22)) ?_
      refine wo_val (.bool (decide ((j : Int) < (a.length : Int)))) rfl (pv_bin rfl rfl rfl) ?_
      refine wo_nil ?_
      refine wr_lim (t := 0) (L := a) rfl fun hlim => ?_
      refine wr_condT rfl (Int.ofNat_lt.2 (lt_of_get ha1)) ?_
      refine wr_skip ?_
      refine wr_seq ?_
      refine wr_block ?_
      refine wr_seq ?_
      refine wr_draw hmix [[], [], [0, 1], [0, 1, 2], [], [], [4, 5], [4, 5, 6], [0, 1, 2, 3, 4, 5, 6, 7]] [(false, 0), (false, 1), (false, 2), (false, 3), (false, 4), (false, 5), (false, 6), (false, 7), (false, 8)] (by kernel_rfl) ?_
      refine wp_val (.sl 3 (List.map rStatus a)) rfl rfl pv_move ?_
      refine wp_val (.int .i64 (j : Int)) rfl rfl pv_move ?_
      refine wp_val (.cp (rStatus a1) 0) rfl rfl (pv_ixa (ixa_nat ti22 ti24 rfl ha1)) ?_
      refine wp_val (.agg (rStatus a1)) rfl rfl (pv_load (ld_cp ti24 rfl)) ?_
      refine wp_val (.sl 3 (List.map rStatus b)) rfl rfl pv_move ?_
      refine wp_val (.int .i64 (j : Int)) rfl rfl pv_move ?_
      refine op_idx fun a2 hz hx1 => ?_
      refine wp_val (.cp (rStatus a2) 0) rfl rfl (pv_ixa (ixa_sl ti22 ti24 rfl hz hx1)) ?_
      refine wp_val (.agg (rStatus a2)) rfl rfl (pv_load (ld_cp ti24 rfl)) ?_
      refine wp_val (.bool (!((a1.Station == a2.Station) && ((a1.From == a2.From) && (a1.Works == a2.Works))))) rfl rfl (pv_bin (eqok24 rfl rfl) rfl neqs24) ?_
      refine wp_nil ?_
      refine wf_itebn rfl (fun hc1 => ?_) (fun hc1 => ?_)
      · refine wr_skip ?_
        refine wr_inBlock ?_
        refine wr_region ?_
        refine wo_val (.int .i64 (j : Int)) rfl pv_move ?_
        refine wo_val (.int .i64 (IntKind.wrap .i64 ((j : Int) + 1))) rfl (pv_bin rfl rfl rfl) ?_
        refine wo_val (.int .i64 (IntKind.wrap .i64 ((j : Int) + 1))) rfl pv_assign ?_
        refine wo_nil ?_
        refine wr_is [(0, (.sl 3 (List.map rStatus a))), (1, (.sl 3 (List.map rStatus b))), (5, (.int .i64 ((j + 1 : Nat) : Int)))] (.cons rfl (.cons rfl (.cons (inc_ok (lt_of_get ha1) hlim) .nil))) ?_
        refine wb_each ?_
        refine hW () _ _ ?_
        exact ⟨rfl, rfl⟩
      · refine wr_seq ?_
        refine wr_region ?_
        refine wo_val (.bool false) rfl pv_assign ?_
        refine wo_nil ?_
        refine wx_each ?_
        refine w_altr ?_
        exact wr_ret (a := false) (vs := [(.bool false)]) Try.func13 hI rfl (.same _)
    · rintro _ fr h ⟨rfl, rfl⟩
      refine wr_mod (alt_inl _ _ _) ?_
      refine wr_seq ?_
      refine wr_seq ?_
      refine wr_region ?_
      refine wo_val (.int .i64 (a.length : Int)) rfl pv_move ?_
      refine wo_val (.sl 3 (List.map rStatus a)) rfl pv_move ?_
      refine wo_val (.int .i64 (a.length : Int)) rfl (pv_len (len_sl ti22)) ?_
      refine wo_val (.bool (decide ((a.length : Int) < (a.length : Int)))) rfl (pv_bin rfl rfl rfl) ?_
      refine wo_nil ?_
      refine wr_condF rfl (Int.lt_irrefl _) ?_
      refine wr_exit rfl ?_
      refine wr_seq ?_
      refine wr_region ?_
      refine wo_val (.bool true) rfl pv_assign ?_
      refine wo_nil ?_
      exact wr_ret (a := true) (vs := [(.bool true)]) Try.func13 hI rfl (.same _)

theorem cp_law26_RadarCheckSpec (many : Int) (l : (List Status)) (s : Status) : CP Try.prog 3 [(.int .i64 many), (.sl 3 (List.map rStatus l)), (.agg (rStatus s))] (law26_RadarCheckSpec many l s) (fun (x : Bool) => (AV.bool x)) := by
  refine cp_intro (n := 47) 1 Try.func3 rfl (by decide) rfl rfl fun h0 ids hI => ?_
  refine wr_in (wr_mod (law26_RadarCheckSpec.eq_1 _ _ _) ?_)
  refine wr_seq ?_
  refine wr_region ?_
  refine wo_box (v := (.agg (rStatus s))) (j := 0) hI rfl rfl rfl rfl rfl rfl rfl fun g => ?_
  refine wo_val (.bool false) rfl pv_assign ?_
  refine wo_nil ?_
  refine wr_hp [(some (.rows g 3 [(rStatus s)]))] rfl ?_
  refine wr_seq ?_
  refine wr_seq ?_
  refine wr_region ?_
  refine of_call [] rfl rfl rfl rfl ((cp_law26_sane) _) (fun v _ => wu_pan Try.func3 hI) fun r _ => ?_
  refine wo_val (.bool (!r)) rfl (pv_un rfl) ?_
  refine wo_nil ?_
  refine wf_itebn rfl (fun hc => ?_) (fun hc => ?_)
  · refine wr_skip ?_
    refine wr_seq ?_
    refine wr_seq ?_
    refine wr_region ?_
    refine wo_val (.sl 3 (List.map rStatus l)) rfl pv_move ?_
    refine of_call [.emp, (.sl 3 (List.map rStatus l))] rfl rfl rfl rfl (fun hb => ACalls.weak (.cons (.emp _) (.cons (.same _) .nil)) ((cp_ref26_Few [] l) _ hb)) (fun v _ => wu_pan Try.func3 hI) fun r1 _ => ?_
    refine wo_val (.bool (!r1)) rfl (pv_un rfl) ?_
    refine wo_nil ?_
    refine wf_itebn rfl (fun hc1 => ?_) (fun hc1 => ?_)
    · refine wr_skip ?_
      refine wr_seq ?_
      refine wr_region ?_
      refine wo_val (.int .i64 many) rfl pv_move ?_
      refine wo_val (.sl 3 (List.map rStatus l)) rfl pv_move ?_
      refine wo_val (.agg (rStatus s)) rfl (pv_load (ld_ptr hI rfl rfl rfl ti24 rfl)) ?_
      refine of_call [(.int .i64 many), (.sl 3 (List.map rStatus l)), (.agg (rStatus s))] rfl rfl rfl rfl ((cp_radar_Add many l s) _) (fun v _ => wu_pan Try.func3 hI) fun r2 _ => ?_
      refine wo_val (.tup [(.sl 3 (List.map rStatus r2.1)), (.int .i64 r2.2)]) rfl pv_move ?_
      refine wo_val (.sl 3 (List.map rStatus r2.1)) rfl (pv_ext rfl) ?_
      refine wo_val (.int .i64 r2.2) rfl (pv_ext rfl) ?_
      refine wo_val (.sl 3 (List.map rStatus r2.1)) rfl pv_assign ?_
      refine wo_val (.int .i64 r2.2) rfl pv_assign ?_
      refine wo_nil ?_
      refine wr_seq ?_
      refine wr_region ?_
      refine wo_val (.int .i64 many) rfl pv_move ?_
      refine wo_val (.sl 3 (List.map rStatus l)) rfl pv_move ?_
      refine wo_val (.agg (rStatus s)) rfl (pv_load (ld_ptr hI rfl rfl rfl ti24 rfl)) ?_
      refine of_call [(.int .i64 many), (.sl 3 (List.map rStatus l)), (.agg (rStatus s))] rfl rfl rfl rfl ((cp_ref26_Add many l s) _) (fun v _ => wu_pan Try.func3 hI) fun r3 _ => ?_
      refine wo_val (.tup [(.sl 3 (List.map rStatus r3.1)), (.int .i64 r3.2)]) rfl pv_move ?_
      refine wo_val (.sl 3 (List.map rStatus r3.1)) rfl (pv_ext rfl) ?_
      refine wo_val (.int .i64 r3.2) rfl (pv_ext rfl) ?_
      refine wo_val (.sl 3 (List.map rStatus r3.1)) rfl pv_assign ?_
      refine wo_val (.int .i64 r3.2) rfl pv_assign ?_
      refine wo_nil ?_
      refine wr_seq ?_
      refine wr_region ?_
      refine wo_val (.sl 3 (List.map rStatus r2.1)) rfl pv_move ?_
      refine wo_val (.sl 3 (List.map rStatus r3.1)) rfl pv_move ?_
      refine of_call [(.sl 3 (List.map rStatus r2.1)), (.sl 3 (List.map rStatus r3.1))] rfl rfl rfl rfl ((cp_ref26_Same r2.1 r3.1) _) (fun v _ => wu_pan Try.func3 hI) fun r4 _ => ?_
      refine wo_val (.bool r4) rfl pv_move ?_
      refine wo_meet 4 [(0, (.int .i64 many)), (1, (.sl 3 (List.map rStatus l))), (37, (.bool (r4 && (r2.2 == r3.2))))] ?_ fun hJ => wo_cases r4 (fun hb1 => ?_) (fun hb1 => ?_)
      · refine wo_val (.bool (r4 && (r2.2 == r3.2))) rfl pv_move ?_
        refine wo_join 8 ((fun (b : Bool) => .ok b) : Bool → R Bool) (fun (b : Bool) (fr : Nat → AV) (h : AHeap) => fr = frA [(46, (.bool b))] ∧ h = hp h0 ids [(some (.rows g 3 [(rStatus s)]))]) ?_ fun hJ1 => of_if1 (fun hb3 => ?_) (fun hb3 => ?_)
        · rintro b fr h ⟨rfl, rfl⟩
          refine wo_val (.bool b) rfl pv_assign ?_
          refine wo_nil ?_
          exact wr_ret (a := b) (vs := [(.bool b)]) Try.func3 hI rfl (.same _)
        · refine wo_valg (tj := 38) (.int .i64 many) rfl (congrArg AV.bool hb3) rfl pv_move ?_
          refine wo_valg (tj := 38) (.sl 3 (List.map rStatus l)) rfl (congrArg AV.bool hb3) rfl pv_move ?_
          refine of_call [(.int .i64 many), (.sl 3 (List.map rStatus l))] rfl (wanted_yes (tj := 38) rfl (congrArg AV.bool hb3)) rfl rfl ((cp_radar_Check many l) _) (fun v _ => wu_pan Try.func3 hI) fun r5 _ => ?_
          refine wo_valg (tj := 38) (.int .i64 many) rfl (congrArg AV.bool hb3) rfl pv_move ?_
          refine wo_valg (tj := 38) (.sl 3 (List.map rStatus l)) rfl (congrArg AV.bool hb3) rfl pv_move ?_
          refine of_call [(.int .i64 many), (.sl 3 (List.map rStatus l))] rfl (wanted_yes (tj := 38) rfl (congrArg AV.bool hb3)) rfl rfl ((cp_ref26_Check many l) _) (fun v _ => wu_pan Try.func3 hI) fun r6 _ => ?_
          refine wo_valg (tj := 38) (.bool (r5 == r6)) rfl (congrArg AV.bool hb3) rfl (pv_bin rfl rfl rfl) ?_
          refine wo_val (.bool (r5 == r6)) rfl (pv_pick (t := true) (congrArg AV.bool hb3) rfl) ?_
          refine wo_back1 ?_
          refine wo_is [(46, (.bool (r5 == r6)))] (.cons rfl .nil) ?_
          exact hJ1 (r5 == r6) _ _ ⟨rfl, rfl⟩
        · refine wo_not (tj := 38) (b := false) rfl (congrArg AV.bool hb3) rfl rfl ?_
          refine wo_not (tj := 38) (b := false) rfl (congrArg AV.bool hb3) rfl rfl ?_
          refine wo_not (tj := 38) (b := false) rfl (congrArg AV.bool hb3) rfl rfl ?_
          refine wo_not (tj := 38) (b := false) rfl (congrArg AV.bool hb3) rfl rfl ?_
          refine wo_not (tj := 38) (b := false) rfl (congrArg AV.bool hb3) rfl rfl ?_
          refine wo_not (tj := 38) (b := false) rfl (congrArg AV.bool hb3) rfl rfl ?_
          refine wo_not (tj := 38) (b := false) rfl (congrArg AV.bool hb3) rfl rfl ?_
          refine wo_val (.bool false) rfl (pv_pick (t := false) (congrArg AV.bool hb3) rfl) ?_
          refine wo_back1 ?_
          refine wo_is [(46, (.bool false))] (.cons rfl .nil) ?_
          exact hJ1 false _ _ ⟨rfl, rfl⟩
      · refine wo_valg (tj := 33) (.int .i64 r2.2) rfl (congrArg AV.bool hb1) rfl pv_move ?_
        refine wo_valg (tj := 33) (.int .i64 r3.2) rfl (congrArg AV.bool hb1) rfl pv_move ?_
        refine wo_valg (tj := 33) (.bool (r2.2 == r3.2)) rfl (congrArg AV.bool hb1) rfl (pv_bin rfl rfl rfl) ?_
        refine wo_val (.bool (r2.2 == r3.2)) rfl (pv_pick (t := true) (congrArg AV.bool hb1) rfl) ?_
        exact wo_is [(0, (.int .i64 many)), (1, (.sl 3 (List.map rStatus l))), (37, (.bool (r4 && (r2.2 == r3.2))))] (.cons rfl (.cons rfl (.cons (and_t hb1) .nil))) hJ
      · refine wo_not (tj := 33) (b := false) rfl (congrArg AV.bool hb1) rfl rfl ?_
        refine wo_not (tj := 33) (b := false) rfl (congrArg AV.bool hb1) rfl rfl ?_
        refine wo_not (tj := 33) (b := false) rfl (congrArg AV.bool hb1) rfl rfl ?_
        refine wo_val (.bool false) rfl (pv_pick (t := false) (congrArg AV.bool hb1) rfl) ?_
        exact wo_is [(0, (.int .i64 many)), (1, (.sl 3 (List.map rStatus l))), (37, (.bool (r4 && (r2.2 == r3.2))))] (.cons rfl (.cons rfl (.cons (and_f hb1) .nil))) hJ
    · refine wr_seq ?_
      refine wr_region ?_
      refine wo_val (.bool true) rfl pv_assign ?_
      refine wo_nil ?_
      exact wr_ret (a := true) (vs := [(.bool true)]) Try.func3 hI rfl (.same _)
  · refine wr_seq ?_
    refine wr_region ?_
    refine wo_val (.bool false) rfl pv_assign ?_
    refine wo_nil ?_
    exact wr_ret (a := false) (vs := [(.bool false)]) Try.func3 hI rfl (.same _)

theorem cp_law26_RadarFrom (many : Int) (l : (List Status)) (s : Status) (station : Int) (minute : Int) : CP Try.prog 4 [(.int .i64 many), (.sl 3 (List.map rStatus l)), (.agg (rStatus s)), (.int .i64 station), (.int .i64 minute)] (law26_RadarFrom many l s station minute) (fun (x : Bool) => (AV.bool x)) := by
  refine cp_intro (n := 95) 2 Try.func4 rfl (by decide) rfl rfl fun h0 ids hI => ?_
  refine wr_in (wr_mod (law26_RadarFrom.eq_1 _ _ _ _ _) ?_)
  refine wr_seq ?_
  refine wr_region ?_
  refine wo_box (v := (.agg (rStatus s))) (j := 0) hI rfl rfl rfl rfl rfl rfl rfl fun g => ?_
  refine wo_val (.bool false) rfl pv_assign ?_
  refine wo_nil ?_
  refine wr_hp [(some (.rows g 3 [(rStatus s)])), none] rfl ?_
  refine wr_seq ?_
  refine wr_seq ?_
  refine wr_region ?_
  refine of_call [] rfl rfl rfl rfl ((cp_law26_sane) _) (fun v _ => wu_pan Try.func4 hI) fun r _ => ?_
  refine wo_val (.bool (!r)) rfl (pv_un rfl) ?_
  refine wo_nil ?_
  refine wf_itebn rfl (fun hc => ?_) (fun hc => ?_)
  · refine wr_skip ?_
    refine wr_seq ?_
    refine wr_seq ?_
    refine wr_region ?_
    refine wo_val (.sl 3 (List.map rStatus l)) rfl pv_move ?_
    refine of_call [.emp, (.sl 3 (List.map rStatus l))] rfl rfl rfl rfl (fun hb => ACalls.weak (.cons (.emp _) (.cons (.same _) .nil)) ((cp_ref26_Few [] l) _ hb)) (fun v _ => wu_pan Try.func4 hI) fun r1 _ => ?_
    refine wo_val (.bool (!r1)) rfl (pv_un rfl) ?_
    refine wo_nil ?_
    refine wf_itebn rfl (fun hc1 => ?_) (fun hc1 => ?_)
    · refine wr_skip ?_
      refine wr_seq ?_
      refine wr_region ?_
      refine wo_val (.int .i64 many) rfl pv_move ?_
      refine wo_val (.sl 3 (List.map rStatus l)) rfl pv_move ?_
      refine wo_val (.agg (rStatus s)) rfl (pv_load (ld_ptr hI rfl rfl rfl ti24 rfl)) ?_
      refine of_call [(.int .i64 many), (.sl 3 (List.map rStatus l)), (.agg (rStatus s))] rfl rfl rfl rfl ((cp_radar_Add many l s) _) (fun v _ => wu_pan Try.func4 hI) fun r2 _ => ?_
      refine wo_val (.tup [(.sl 3 (List.map rStatus r2.1)), (.int .i64 r2.2)]) rfl pv_move ?_
      refine wo_val (.sl 3 (List.map rStatus r2.1)) rfl (pv_ext rfl) ?_
      refine wo_val (.int .i64 r2.2) rfl (pv_ext rfl) ?_
      refine wo_val (.sl 3 (List.map rStatus r2.1)) rfl pv_assign ?_
      refine wo_val (.int .i64 r2.2) rfl pv_assign ?_
      refine wo_nil ?_
      refine wr_seq ?_
      refine wr_seq ?_
      refine wr_region ?_
      refine wo_val (.int .i64 r2.2) rfl pv_move ?_
      refine wo_val (.bool (r2.2 != 0)) rfl (pv_bin rfl rfl rfl) ?_
      refine wo_nil ?_
      refine wf_iteb rfl (fun hc2 => ?_) (fun hc2 => ?_)
      · refine wr_seq ?_
        refine wr_region ?_
        refine wo_val (.int .i64 r2.2) rfl pv_move ?_
        refine wo_val (.bool (r2.2 == 260)) rfl (pv_bin rfl rfl rfl) ?_
        refine wo_val (.bool (r2.2 == 260)) rfl pv_move ?_
        refine wo_meet 4 [(36, (.bool ((r2.2 == 260) && ((r2.1.length : Int) == 0))))] ?_ fun hJ => wo_cases (r2.2 == 260) (fun hb1 => ?_) (fun hb1 => ?_)
        · refine wo_val (.bool ((r2.2 == 260) && ((r2.1.length : Int) == 0))) rfl pv_assign ?_
          refine wo_nil ?_
          exact wr_ret (a := ((r2.2 == 260) && ((r2.1.length : Int) == 0))) (vs := [(.bool ((r2.2 == 260) && ((r2.1.length : Int) == 0)))]) Try.func4 hI rfl (.same _)
        · refine wo_valg (tj := 32) (.sl 3 (List.map rStatus r2.1)) rfl (congrArg AV.bool hb1) rfl pv_move ?_
          refine wo_valg (tj := 32) (.int .i64 (r2.1.length : Int)) rfl (congrArg AV.bool hb1) rfl (pv_len (len_sl ti22)) ?_
          refine wo_valg (tj := 32) (.bool ((r2.1.length : Int) == 0)) rfl (congrArg AV.bool hb1) rfl (pv_bin rfl rfl rfl) ?_
          refine wo_val (.bool ((r2.1.length : Int) == 0)) rfl (pv_pick (t := true) (congrArg AV.bool hb1) rfl) ?_
          exact wo_is [(36, (.bool ((r2.2 == 260) && ((r2.1.length : Int) == 0))))] (.cons (and_t hb1) .nil) hJ
        · refine wo_not (tj := 32) (b := false) rfl (congrArg AV.bool hb1) rfl rfl ?_
          refine wo_not (tj := 32) (b := false) rfl (congrArg AV.bool hb1) rfl rfl ?_
          refine wo_not (tj := 32) (b := false) rfl (congrArg AV.bool hb1) rfl rfl ?_
          refine wo_val (.bool false) rfl (pv_pick (t := false) (congrArg AV.bool hb1) rfl) ?_
          exact wo_is [(36, (.bool ((r2.2 == 260) && ((r2.1.length : Int) == 0))))] (.cons (and_f hb1) .nil) hJ
      · refine wr_skip ?_
        refine wr_seq ?_
        refine wr_region ?_
        refine wo_val (.int .i64 1440) rfl pv_assign ?_
        refine wo_nil ?_
        refine wr_seq ?_
        refine wr_seq ?_
        refine wr_region ?_
        refine wo_val (.sl 3 (List.map rStatus l)) rfl pv_move ?_
        refine wo_val (.int .i64 (l.length : Int)) rfl (pv_len (len_sl ti22)) ?_
        refine wo_val (.int .i64 0) rfl pv_move ?_
        refine wo_nil ?_
        refine wr_block ?_
        refine wr_is [(1, (.sl 3 (List.map rStatus l))), (3, (.int .i64 station)), (4, (.int .i64 minute)), (7, (.ptr (ix ids 0) g 0 0)), (11, (.sl 3 (List.map rStatus r2.1))), (13, (.int .i64 1440)), (37, (.sl 3 (List.map rStatus l))), (38, (.int .i64 (l.length : Int))), (39, (.int .i64 0))] (.cons rfl (.cons rfl (.cons rfl (.cons rfl (.cons rfl (.cons rfl (.cons rfl (.cons rfl (.cons rfl .nil))))))))) ?_
        refine wf_eachS' (P := Try.prog) l (fun _ a => fun until1 => law26_RadarFrom_b1 s a until1) (((fun until1 => if (((station == s.Station) && (decide (minute ≥ s.From))) && ((decide (minute < until1)) || (until1 == 1440))) then
((radar_Works r2.1 station minute).bind fun r3 =>
  .ok (r3 == s.Works))
else
((radar_Works r2.1 station minute).bind fun r4 =>
  (radar_Works l station minute).bind fun r5 =>
  .ok (r4 == r5)))) : Int → R Bool)
          (fun j => fun until1 => fun (fr : Nat → AV) (h : AHeap) => fr = frA [(1, (.sl 3 (List.map rStatus l))), (3, (.int .i64 station)), (4, (.int .i64 minute)), (7, (.ptr (ix ids 0) g 0 0)), (11, (.sl 3 (List.map rStatus r2.1))), (13, (.int .i64 until1)), (37, (.sl 3 (List.map rStatus l))), (38, (.int .i64 (l.length : Int))), (39, (.int .i64 (j : Int)))] ∧ h = hp h0 ids [(some (.rows g 3 [(rStatus s)])), none]) 1440 ?_ ?_ ?_
        · exact ⟨rfl, rfl⟩
        · rintro j a ha W hW until1 fr h ⟨rfl, rfl⟩
          refine wr_mod (m' := law26_RadarFrom_b1 s a until1) rfl (wr_mod (law26_RadarFrom_b1.eq_1 _ _ _) ?_)
          refine wr_seq ?_
          refine wr_region ?_
          refine wo_val (.bool (decide ((j : Int) < (l.length : Int)))) rfl (pv_bin rfl rfl rfl) ?_
          refine wo_nil ?_
          refine wr_seq ?_
          refine wr_lim (t := 1) (L := l) rfl fun hlim => ?_
          refine wr_condT rfl (Int.ofNat_lt.2 (lt_of_get ha)) ?_
          refine wr_skip ?_
          refine wr_seq ?_
          refine wr_block ?_
          refine wr_seq ?_
          refine wr_region ?_
          refine wo_val (.cp (rStatus a) 0) rfl (pv_ixa (ixa_nat ti22 ti24 rfl ha)) ?_
          refine wo_val (.agg (rStatus a)) rfl (pv_load (ld_cp ti24 rfl)) ?_
          refine wo_alloc (j := 1) hI rfl rfl rfl rfl ti24 rfl fun g1 => ?_
          refine wo_store (st_ptr hI rfl rfl rfl rfl ti24 rfl rfl rfl rfl rfl) ?_
          refine wo_nil ?_
          refine wr_hp [(some (.rows g 3 [(rStatus s)])), (some (.rows g1 3 [(rStatus a)]))] rfl ?_
          refine wr_seq ?_
          refine wr_region ?_
          refine wo_val (.ptr (ix ids 1) g1 0 0) rfl (pv_fa (fa_ptr (c := 0) (off := 0) (i := 0) ti24 rfl ti3 rfl)) ?_
          refine wo_val (.int .i64 a.Station) rfl (pv_load (ld_ptr hI rfl rfl rfl ti3 rfl)) ?_
          refine wo_val (.ptr (ix ids 0) g 0 0) rfl (pv_fa (fa_ptr (c := 0) (off := 0) (i := 0) ti24 rfl ti3 rfl)) ?_
          refine wo_val (.int .i64 s.Station) rfl (pv_load (ld_ptr hI rfl rfl rfl ti3 rfl)) ?_
          refine wo_val (.bool (a.Station == s.Station)) rfl (pv_bin rfl rfl rfl) ?_
          refine wo_val (.bool (a.Station == s.Station)) rfl pv_move ?_
          refine wo_meet 6 [(1, (.sl 3 (List.map rStatus l))), (3, (.int .i64 station)), (4, (.int .i64 minute)), (7, (.ptr (ix ids 0) g 0 0)), (11, (.sl 3 (List.map rStatus r2.1))), (13, (.int .i64 until1)), (15, (.ptr (ix ids 1) g1 0 0)), (37, (.sl 3 (List.map rStatus l))), (38, (.int .i64 (l.length : Int))), (39, (.int .i64 (j : Int))), (54, (.bool ((a.Station == s.Station) && (decide (a.From > s.From)))))] ?_ fun hJ1 => wo_cases (a.Station == s.Station) (fun hb3 => ?_) (fun hb3 => ?_)
          · refine wo_nil ?_
            refine wf_iteb rfl (fun hc3 => ?_) (fun hc3 => ?_)
            · refine wr_region ?_
              refine wo_val (.int .i64 until1) rfl pv_move ?_
              refine wo_val (.ptr (ix ids 1) g1 0 1) rfl (pv_fa (fa_ptr (c := 0) (off := 1) (i := 1) ti24 rfl ti3 rfl)) ?_
              refine wo_val (.int .i64 a.From) rfl (pv_load (ld_ptr hI rfl rfl rfl ti3 rfl)) ?_
              refine wo_val (.int .i64 (if a.From < until1 then a.From else until1)) rfl (pv_min rfl) ?_
              refine wo_val (.int .i64 (if a.From < until1 then a.From else until1)) rfl pv_assign ?_
              refine wo_nil ?_
              refine wr_inBlock ?_
              refine wr_region ?_
              refine wo_val (.int .i64 (IntKind.wrap .i64 ((j : Int) + 1))) rfl (pv_bin rfl rfl rfl) ?_
              refine wo_val (.int .i64 (IntKind.wrap .i64 ((j : Int) + 1))) rfl pv_move ?_
              refine wo_nil ?_
              refine wr_drop [(some (.rows g 3 [(rStatus s)])), none] hI rfl (.keep (.drop .nil)) ?_
              refine wr_is [(1, (.sl 3 (List.map rStatus l))), (3, (.int .i64 station)), (4, (.int .i64 minute)), (7, (.ptr (ix ids 0) g 0 0)), (11, (.sl 3 (List.map rStatus r2.1))), (13, (.int .i64 (if a.From < until1 then a.From else until1))), (37, (.sl 3 (List.map rStatus l))), (38, (.int .i64 (l.length : Int))), (39, (.int .i64 ((j + 1 : Nat) : Int)))] (.cons rfl (.cons rfl (.cons rfl (.cons rfl (.cons rfl (.cons rfl (.cons rfl (.cons rfl (.cons (inc_ok (lt_of_get ha) hlim) .nil))))))))) ?_
              refine wb_S ?_
              refine hW (if a.From < until1 then a.From else until1) _ _ ?_
              exact ⟨rfl, rfl⟩
            · refine wr_skip ?_
              refine wr_inBlock ?_
              refine wr_region ?_
              refine wo_val (.int .i64 (IntKind.wrap .i64 ((j : Int) + 1))) rfl (pv_bin rfl rfl rfl) ?_
              refine wo_val (.int .i64 (IntKind.wrap .i64 ((j : Int) + 1))) rfl pv_move ?_
              refine wo_nil ?_
              refine wr_drop [(some (.rows g 3 [(rStatus s)])), none] hI rfl (.keep (.drop .nil)) ?_
              refine wr_is [(1, (.sl 3 (List.map rStatus l))), (3, (.int .i64 station)), (4, (.int .i64 minute)), (7, (.ptr (ix ids 0) g 0 0)), (11, (.sl 3 (List.map rStatus r2.1))), (13, (.int .i64 until1)), (37, (.sl 3 (List.map rStatus l))), (38, (.int .i64 (l.length : Int))), (39, (.int .i64 ((j + 1 : Nat) : Int)))] (.cons rfl (.cons rfl (.cons rfl (.cons rfl (.cons rfl (.cons rfl (.cons rfl (.cons rfl (.cons (inc_ok (lt_of_get ha) hlim) .nil))))))))) ?_
              refine wb_S ?_
              refine hW until1 _ _ ?_
              exact ⟨rfl, rfl⟩
          · refine wo_valg (tj := 48) (.ptr (ix ids 1) g1 0 1) rfl (congrArg AV.bool hb3) rfl (pv_fa (fa_ptr (c := 0) (off := 1) (i := 1) ti24 rfl ti3 rfl)) ?_
            refine wo_valg (tj := 48) (.int .i64 a.From) rfl (congrArg AV.bool hb3) rfl (pv_load (ld_ptr hI rfl rfl rfl ti3 rfl)) ?_
            refine wo_valg (tj := 48) (.ptr (ix ids 0) g 0 1) rfl (congrArg AV.bool hb3) rfl (pv_fa (fa_ptr (c := 0) (off := 1) (i := 1) ti24 rfl ti3 rfl)) ?_
            refine wo_valg (tj := 48) (.int .i64 s.From) rfl (congrArg AV.bool hb3) rfl (pv_load (ld_ptr hI rfl rfl rfl ti3 rfl)) ?_
            refine wo_valg (tj := 48) (.bool (decide (a.From > s.From))) rfl (congrArg AV.bool hb3) rfl (pv_bin rfl rfl rfl) ?_
            refine wo_val (.bool (decide (a.From > s.From))) rfl (pv_pick (t := true) (congrArg AV.bool hb3) rfl) ?_
            exact wo_is [(1, (.sl 3 (List.map rStatus l))), (3, (.int .i64 station)), (4, (.int .i64 minute)), (7, (.ptr (ix ids 0) g 0 0)), (11, (.sl 3 (List.map rStatus r2.1))), (13, (.int .i64 until1)), (15, (.ptr (ix ids 1) g1 0 0)), (37, (.sl 3 (List.map rStatus l))), (38, (.int .i64 (l.length : Int))), (39, (.int .i64 (j : Int))), (54, (.bool ((a.Station == s.Station) && (decide (a.From > s.From)))))] (.cons rfl (.cons rfl (.cons rfl (.cons rfl (.cons rfl (.cons rfl (.cons rfl (.cons rfl (.cons rfl (.cons rfl (.cons (and_t hb3) .nil))))))))))) hJ1
          · refine wo_not (tj := 48) (b := false) rfl (congrArg AV.bool hb3) rfl rfl ?_
            refine wo_not (tj := 48) (b := false) rfl (congrArg AV.bool hb3) rfl rfl ?_
            refine wo_not (tj := 48) (b := false) rfl (congrArg AV.bool hb3) rfl rfl ?_
            refine wo_not (tj := 48) (b := false) rfl (congrArg AV.bool hb3) rfl rfl ?_
            refine wo_not (tj := 48) (b := false) rfl (congrArg AV.bool hb3) rfl rfl ?_
            refine wo_val (.bool false) rfl (pv_pick (t := false) (congrArg AV.bool hb3) rfl) ?_
            exact wo_is [(1, (.sl 3 (List.map rStatus l))), (3, (.int .i64 station)), (4, (.int .i64 minute)), (7, (.ptr (ix ids 0) g 0 0)), (11, (.sl 3 (List.map rStatus r2.1))), (13, (.int .i64 until1)), (15, (.ptr (ix ids 1) g1 0 0)), (37, (.sl 3 (List.map rStatus l))), (38, (.int .i64 (l.length : Int))), (39, (.int .i64 (j : Int))), (54, (.bool ((a.Station == s.Station) && (decide (a.From > s.From)))))] (.cons rfl (.cons rfl (.cons rfl (.cons rfl (.cons rfl (.cons rfl (.cons rfl (.cons rfl (.cons rfl (.cons rfl (.cons (and_f hb3) .nil))))))))))) hJ1
        · rintro until1 fr h ⟨rfl, rfl⟩
          refine wr_seq ?_
          refine wr_region ?_
          refine wo_val (.bool (decide ((l.length : Int) < (l.length : Int)))) rfl (pv_bin rfl rfl rfl) ?_
          refine wo_nil ?_
          refine wr_seq ?_
          refine wr_condF rfl (Int.lt_irrefl _) ?_
          refine wr_exit rfl ?_
          refine wr_seq ?_
          refine wr_seq ?_
          refine wr_region ?_
          refine wo_val (.int .i64 station) rfl pv_move ?_
          refine wo_val (.ptr (ix ids 0) g 0 0) rfl (pv_fa (fa_ptr (c := 0) (off := 0) (i := 0) ti24 rfl ti3 rfl)) ?_
          refine wo_val (.int .i64 s.Station) rfl (pv_load (ld_ptr hI rfl rfl rfl ti3 rfl)) ?_
          refine wo_val (.bool (station == s.Station)) rfl (pv_bin rfl rfl rfl) ?_
          refine wo_val (.bool (station == s.Station)) rfl pv_move ?_
          refine wo_meet 5 [(1, (.sl 3 (List.map rStatus l))), (3, (.int .i64 station)), (4, (.int .i64 minute)), (7, (.ptr (ix ids 0) g 0 0)), (11, (.sl 3 (List.map rStatus r2.1))), (13, (.int .i64 until1)), (69, (.bool ((station == s.Station) && (decide (minute ≥ s.From)))))] ?_ fun hJ2 => wo_cases (station == s.Station) (fun hb5 => ?_) (fun hb5 => ?_)
          · refine wo_val (.bool ((station == s.Station) && (decide (minute ≥ s.From)))) rfl pv_move ?_
            refine wo_meet 8 [(1, (.sl 3 (List.map rStatus l))), (3, (.int .i64 station)), (4, (.int .i64 minute)), (7, (.ptr (ix ids 0) g 0 0)), (11, (.sl 3 (List.map rStatus r2.1))), (78, (.bool (((station == s.Station) && (decide (minute ≥ s.From))) && ((decide (minute < until1)) || (until1 == 1440)))))] ?_ fun hJ3 => wo_cases ((station == s.Station) && (decide (minute ≥ s.From))) (fun hb7 => ?_) (fun hb7 => ?_)
            · refine wo_nil ?_
              refine wf_iteb rfl (fun hc4 => ?_) (fun hc4 => ?_)
              · refine wr_seq ?_
                refine wr_draw hmix [[], [], [], [0, 1, 2], [], [4], [0, 1, 2, 3, 4, 5], [0, 1, 2, 3, 3, 4, 5, 6, 6]] [(false, 0), (false, 1), (false, 2), (false, 4), (false, 5), (true, 3), (false, 6), (false, 7)] (by kernel_rfl) ?_
                refine wp_val (.sl 3 (List.map rStatus r2.1)) rfl rfl pv_move ?_
                refine wp_val (.int .i64 station) rfl rfl pv_move ?_
                refine wp_val (.int .i64 minute) rfl rfl pv_move ?_
                refine wp_val (.ptr (ix ids 0) g 0 2) rfl rfl (pv_fa (fa_ptr (c := 0) (off := 2) (i := 2) ti24 rfl ti4 rfl)) ?_
                refine wp_val (.bool s.Works) rfl rfl (pv_load (ld_ptr hI rfl rfl rfl ti4 rfl)) ?_
                refine wp_call [(.sl 3 (List.map rStatus r2.1)), (.int .i64 station), (.int .i64 minute)] rfl rfl rfl rfl rfl ((cp_radar_Works r2.1 station minute) _) (fun v _ _ _ => wu_pan Try.func4 hI) (pend_no rfl (pv_load (ld_ptr hI rfl rfl rfl ti4 rfl)) (pend_no rfl (pv_fa (fa_ptr (c := 0) (off := 2) (i := 2) ti24 rfl ti4 rfl)) (pend_yes rfl (pend_yes rfl (pend_yes rfl pend_nil))))) fun r3 _ => ?_
                refine wp_val (.bool (r3 == s.Works)) rfl rfl (pv_bin rfl rfl (bin_beq ti4)) ?_
                refine wp_val (.bool (r3 == s.Works)) rfl rfl pv_assign ?_
                refine wp_nil ?_
                exact wr_ret (a := (r3 == s.Works)) (vs := [(.bool (r3 == s.Works))]) Try.func4 hI rfl (.same _)
              · refine wr_skip ?_
                refine wr_seq ?_
                refine wr_region ?_
                refine wo_val (.sl 3 (List.map rStatus r2.1)) rfl pv_move ?_
                refine wo_val (.int .i64 station) rfl pv_move ?_
                refine wo_val (.int .i64 minute) rfl pv_move ?_
                refine of_call [(.sl 3 (List.map rStatus r2.1)), (.int .i64 station), (.int .i64 minute)] rfl rfl rfl rfl ((cp_radar_Works r2.1 station minute) _) (fun v _ => wu_pan Try.func4 hI) fun r4 _ => ?_
                refine wo_val (.sl 3 (List.map rStatus l)) rfl pv_move ?_
                refine wo_val (.int .i64 station) rfl pv_move ?_
                refine wo_val (.int .i64 minute) rfl pv_move ?_
                refine of_call [(.sl 3 (List.map rStatus l)), (.int .i64 station), (.int .i64 minute)] rfl rfl rfl rfl ((cp_radar_Works l station minute) _) (fun v _ => wu_pan Try.func4 hI) fun r5 _ => ?_
                refine wo_val (.bool (r4 == r5)) rfl (pv_bin rfl rfl (bin_beq ti4)) ?_
                refine wo_val (.bool (r4 == r5)) rfl pv_assign ?_
                refine wo_nil ?_
                exact wr_ret (a := (r4 == r5)) (vs := [(.bool (r4 == r5))]) Try.func4 hI rfl (.same _)
            · refine wo_valg (tj := 70) (.int .i64 minute) rfl (congrArg AV.bool hb7) rfl pv_move ?_
              refine wo_valg (tj := 70) (.int .i64 until1) rfl (congrArg AV.bool hb7) rfl pv_move ?_
              refine wo_valg (tj := 70) (.bool (decide (minute < until1))) rfl (congrArg AV.bool hb7) rfl (pv_bin rfl rfl rfl) ?_
              refine wo_valg (tj := 70) (.bool (decide (minute < until1))) rfl (congrArg AV.bool hb7) rfl pv_move ?_
              refine wo_meet 3 [(1, (.sl 3 (List.map rStatus l))), (3, (.int .i64 station)), (4, (.int .i64 minute)), (7, (.ptr (ix ids 0) g 0 0)), (11, (.sl 3 (List.map rStatus r2.1))), (70, (.bool ((station == s.Station) && (decide (minute ≥ s.From))))), (77, (.bool ((decide (minute < until1)) || (until1 == 1440))))] ?_ fun hJ4 => wo_cases (decide (minute < until1)) (fun hb9 => ?_) (fun hb9 => ?_)
              · refine wo_val (.bool ((decide (minute < until1)) || (until1 == 1440))) rfl (pv_pick (t := true) (congrArg AV.bool hb7) rfl) ?_
                exact wo_is [(1, (.sl 3 (List.map rStatus l))), (3, (.int .i64 station)), (4, (.int .i64 minute)), (7, (.ptr (ix ids 0) g 0 0)), (11, (.sl 3 (List.map rStatus r2.1))), (78, (.bool (((station == s.Station) && (decide (minute ≥ s.From))) && ((decide (minute < until1)) || (until1 == 1440)))))] (.cons rfl (.cons rfl (.cons rfl (.cons rfl (.cons rfl (.cons (and_t hb7) .nil)))))) hJ3
              · refine wo_not (tj := 74) (b := true) rfl (congrArg AV.bool hb9) rfl rfl ?_
                refine wo_not (tj := 74) (b := true) rfl (congrArg AV.bool hb9) rfl rfl ?_
                refine wo_valg (tj := 70) (.bool true) rfl (congrArg AV.bool hb7) rfl (pv_pick (t := true) (congrArg AV.bool hb9) rfl) ?_
                exact wo_is [(1, (.sl 3 (List.map rStatus l))), (3, (.int .i64 station)), (4, (.int .i64 minute)), (7, (.ptr (ix ids 0) g 0 0)), (11, (.sl 3 (List.map rStatus r2.1))), (70, (.bool ((station == s.Station) && (decide (minute ≥ s.From))))), (77, (.bool ((decide (minute < until1)) || (until1 == 1440))))] (.cons rfl (.cons rfl (.cons rfl (.cons rfl (.cons rfl (.cons rfl (.cons (or_t hb9) .nil))))))) hJ4
              · refine wo_valg (tj := 74) (.int .i64 until1) rfl (congrArg AV.bool hb9) rfl pv_move ?_
                refine wo_valg (tj := 74) (.bool (until1 == 1440)) rfl (congrArg AV.bool hb9) rfl (pv_bin rfl rfl rfl) ?_
                refine wo_valg (tj := 70) (.bool (until1 == 1440)) rfl (congrArg AV.bool hb7) rfl (pv_pick (t := false) (congrArg AV.bool hb9) rfl) ?_
                exact wo_is [(1, (.sl 3 (List.map rStatus l))), (3, (.int .i64 station)), (4, (.int .i64 minute)), (7, (.ptr (ix ids 0) g 0 0)), (11, (.sl 3 (List.map rStatus r2.1))), (70, (.bool ((station == s.Station) && (decide (minute ≥ s.From))))), (77, (.bool ((decide (minute < until1)) || (until1 == 1440))))] (.cons rfl (.cons rfl (.cons rfl (.cons rfl (.cons rfl (.cons rfl (.cons (or_f hb9) .nil))))))) hJ4
            · refine wo_not (tj := 70) (b := false) rfl (congrArg AV.bool hb7) rfl rfl ?_
              refine wo_not (tj := 70) (b := false) rfl (congrArg AV.bool hb7) rfl rfl ?_
              refine wo_not (tj := 70) (b := false) rfl (congrArg AV.bool hb7) rfl rfl ?_
              refine wo_not (tj := 70) (b := false) rfl (congrArg AV.bool hb7) rfl rfl ?_
              refine wo_notu (tj := 74) rfl rfl rfl ?_
              refine wo_notu (tj := 74) rfl rfl rfl ?_
              refine wo_not (tj := 70) (b := false) rfl (congrArg AV.bool hb7) rfl rfl ?_
              refine wo_val (.bool false) rfl (pv_pick (t := false) (congrArg AV.bool hb7) rfl) ?_
              exact wo_is [(1, (.sl 3 (List.map rStatus l))), (3, (.int .i64 station)), (4, (.int .i64 minute)), (7, (.ptr (ix ids 0) g 0 0)), (11, (.sl 3 (List.map rStatus r2.1))), (78, (.bool (((station == s.Station) && (decide (minute ≥ s.From))) && ((decide (minute < until1)) || (until1 == 1440)))))] (.cons rfl (.cons rfl (.cons rfl (.cons rfl (.cons rfl (.cons (and_f hb7) .nil)))))) hJ3
          · refine wo_valg (tj := 64) (.int .i64 minute) rfl (congrArg AV.bool hb5) rfl pv_move ?_
            refine wo_valg (tj := 64) (.ptr (ix ids 0) g 0 1) rfl (congrArg AV.bool hb5) rfl (pv_fa (fa_ptr (c := 0) (off := 1) (i := 1) ti24 rfl ti3 rfl)) ?_
            refine wo_valg (tj := 64) (.int .i64 s.From) rfl (congrArg AV.bool hb5) rfl (pv_load (ld_ptr hI rfl rfl rfl ti3 rfl)) ?_
            refine wo_valg (tj := 64) (.bool (decide (minute ≥ s.From))) rfl (congrArg AV.bool hb5) rfl (pv_bin rfl rfl rfl) ?_
            refine wo_val (.bool (decide (minute ≥ s.From))) rfl (pv_pick (t := true) (congrArg AV.bool hb5) rfl) ?_
            exact wo_is [(1, (.sl 3 (List.map rStatus l))), (3, (.int .i64 station)), (4, (.int .i64 minute)), (7, (.ptr (ix ids 0) g 0 0)), (11, (.sl 3 (List.map rStatus r2.1))), (13, (.int .i64 until1)), (69, (.bool ((station == s.Station) && (decide (minute ≥ s.From)))))] (.cons rfl (.cons rfl (.cons rfl (.cons rfl (.cons rfl (.cons rfl (.cons (and_t hb5) .nil))))))) hJ2
          · refine wo_not (tj := 64) (b := false) rfl (congrArg AV.bool hb5) rfl rfl ?_
            refine wo_not (tj := 64) (b := false) rfl (congrArg AV.bool hb5) rfl rfl ?_
            refine wo_not (tj := 64) (b := false) rfl (congrArg AV.bool hb5) rfl rfl ?_
            refine wo_not (tj := 64) (b := false) rfl (congrArg AV.bool hb5) rfl rfl ?_
            refine wo_val (.bool false) rfl (pv_pick (t := false) (congrArg AV.bool hb5) rfl) ?_
            exact wo_is [(1, (.sl 3 (List.map rStatus l))), (3, (.int .i64 station)), (4, (.int .i64 minute)), (7, (.ptr (ix ids 0) g 0 0)), (11, (.sl 3 (List.map rStatus r2.1))), (13, (.int .i64 until1)), (69, (.bool ((station == s.Station) && (decide (minute ≥ s.From)))))] (.cons rfl (.cons rfl (.cons rfl (.cons rfl (.cons rfl (.cons rfl (.cons (and_f hb5) .nil))))))) hJ2
    · refine wr_seq ?_
      refine wr_region ?_
      refine wo_val (.bool true) rfl pv_assign ?_
      refine wo_nil ?_
      exact wr_ret (a := true) (vs := [(.bool true)]) Try.func4 hI rfl (.same _)
  · refine wr_seq ?_
    refine wr_region ?_
    refine wo_val (.bool false) rfl pv_assign ?_
    refine wo_nil ?_
    exact wr_ret (a := false) (vs := [(.bool false)]) Try.func4 hI rfl (.same _)

theorem cg_radar_Seen_2 (volumes : Int) (l : (List Status)) (minute : Int) (l1 : (List Station)) (h0 : AHeap) (o0 : Nat) (v1 : AV) (g : Nat) (vH : OwnV v1 o0 g l1.length) (hI0 : Ids h0 [o0] 1) : radar_Seen_2 volumes l minute l1 ≠ .bad → ACalls Try.prog 17 [(.int .i64 volumes), v1, (.sl 3 (List.map rStatus l)), (.int .i64 minute)] (hp h0 [o0] [ownO v1 g 3 (List.map rStation l1)]) (AnsG (fun a_ v h' => ∃ (v7 : AV), ∃ (g9 : Nat), OwnV v7 o0 g9 a_.2.2.length ∧ v = (.tup [(.sl 1 (List.map rB a_.2.1)), (.int .i64 a_.1)]) ∧ h' = hp h0 [o0] [ownO v7 g9 3 (List.map rStation a_.2.2)]) h0 (radar_Seen_2 volumes l minute l1)) := by
  refine cpg_intro (n := 79) 4 Try.func17 rfl (by decide) rfl rfl hI0 rfl fun ids he hI => ?_
  clear hI0
  obtain rfl : ix ids 0 = o0 := he 0 rfl
  clear he
  refine wr_in (wr_mod (radar_Seen_2.eq_1 _ _ _ _) ?_)
  refine wr_hp [(ownO v1 g 3 (List.map rStation l1)), none, none, none, none] rfl ?_
  refine wr_seq ?_
  refine wr_region ?_
  refine wo_alloc (j := 1) hI rfl rfl rfl rfl ti39 rfl fun g1 => ?_
  refine wo_val (.int .i64 0) rfl pv_assign ?_
  refine wo_nil ?_
  refine wr_hp [(ownO v1 g 3 (List.map rStation l1)), (some (.rows g1 1 [[.emp]])), none, none, none] rfl ?_
  refine wr_seq ?_
  refine wr_seq ?_
  refine wr_region ?_
  refine wo_val (.int .i64 volumes) rfl pv_move ?_
  refine of_call [(.int .i64 volumes), (.int .i64 1), (.int .i64 64)] rfl rfl rfl rfl ((cp_radar_in volumes 1 64) _) (fun v _ => wu_panG (K := 1) (N := 4) Try.func17 hI) fun r _ => ?_
  refine wo_val (.bool (!r)) rfl (pv_un rfl) ?_
  refine wo_val (.bool (!r)) rfl pv_move ?_
  refine wo_meet 4 [(0, (.int .i64 volumes)), (1, v1), (2, (.sl 3 (List.map rStatus l))), (3, (.int .i64 minute)), (8, (.ptr (ix ids 1) g1 0 0)), (26, (.bool ((!r) || (decide ((l1.length : Int) > 4)))))] ?_ fun hJ => wo_cases (!r) (fun hb1 => ?_) (fun hb1 => ?_)
  · refine wo_val (.bool ((!r) || (decide ((l1.length : Int) > 4)))) rfl pv_move ?_
    refine wo_join 4 ((fun (b : Bool) => if b then
(.ok (260, [], l1))
else
((each (fun j _ => fun x1 => radar_Seen_2_b1 volumes j x1) 0 l1 l1).bind (alt (fun x1 => (radar_Check (x1.length : Int) l).bind fun e1 =>
  if (e1 != 0) then
(.ok (e1, [], x1))
else
(if (0 : Int) ≤ volumes ∧ (volumes : Int) ≤ volumes ∧ (Int.toNat volumes) * 1 ≤ LIM then
  (eachS (fun j1 _ => un2 fun x3 l2 => radar_Seen_2_b3 l minute j1 x3 l2) 0 x1 (x1, (List.replicate (Int.toNat volumes) false))).bind ((un2 fun x3 l2 => .ok (0, l2, x3))) else .bad)) (fun r => .ok r)))) : Bool → R (Int × (List Bool) × (List Station))) (fun (b : Bool) (fr : Nat → AV) (h : AHeap) => fr = frA [(0, (.int .i64 volumes)), (1, v1), (2, (.sl 3 (List.map rStatus l))), (3, (.int .i64 minute)), (8, (.ptr (ix ids 1) g1 0 0)), (31, (.bool b))] ∧ h = hp h0 ids [(ownO v1 g 3 (List.map rStation l1)), (some (.rows g1 1 [[.emp]])), none, none, none]) ?_ fun hJ1 => of_if1 (fun hb3 => ?_) (fun hb3 => ?_)
    · rintro b fr h ⟨rfl, rfl⟩
      refine wo_nil ?_
      refine wf_iteb rfl (fun hc => ?_) (fun hc => ?_)
      · refine wr_seq ?_
        refine wr_region ?_
        refine wo_store (st_ptr hI rfl rfl rfl rfl ti39 rfl rfl rfl rfl rfl) ?_
        refine wo_val (.int .i64 260) rfl pv_assign ?_
        refine wo_nil ?_
        exact wr_retG (K := 1) (N := 4) (a := (260, [], l1)) (vs := [.emp, (.int .i64 260)]) [ownO v1 g 3 (List.map rStation l1)] Try.func17 hI rfl (ares_cell (ld_ptr hI rfl rfl rfl ti39 rfl) (ares_tmp ares_nil)) rfl (.keep (.drop (.keep (.keep (.keep .nil))))) (.tupL (.cons (.emp _) (.cons (.same _) .nil))) ⟨v1, g, vH, rfl, rfl⟩
      · refine wr_skip ?_
        refine wr_seq ?_
        refine wr_seq ?_
        refine wr_region ?_
        refine wo_val v1 rfl pv_move ?_
        refine wo_val (.int .i64 (l1.length : Int)) rfl (pv_len (OwnV.len vH ti35)) ?_
        refine wo_val (.int .i64 0) rfl pv_move ?_
        refine wo_nil ?_
        refine wr_block ?_
        refine wr_limo (t := 1) rfl vH fun hlim => ?_
        refine wr_is [(0, (.int .i64 volumes)), (1, v1), (2, (.sl 3 (List.map rStatus l))), (3, (.int .i64 minute)), (8, (.ptr (ix ids 1) g1 0 0)), (32, v1), (33, (.int .i64 (l1.length : Int))), (34, (.int .i64 0))] (.cons rfl (.cons rfl (.cons rfl (.cons rfl (.cons rfl (.cons rfl (.cons rfl (.cons rfl .nil)))))))) ?_
        refine wf_each' (P := Try.prog) l1 (fun j _ => fun x1 => radar_Seen_2_b1 volumes j x1) ((alt (fun x1 => (radar_Check (x1.length : Int) l).bind fun e1 =>
  if (e1 != 0) then
(.ok (e1, [], x1))
else
(if (0 : Int) ≤ volumes ∧ (volumes : Int) ≤ volumes ∧ (Int.toNat volumes) * 1 ≤ LIM then
  (eachS (fun j1 _ => un2 fun x3 l2 => radar_Seen_2_b3 l minute j1 x3 l2) 0 x1 (x1, (List.replicate (Int.toNat volumes) false))).bind ((un2 fun x3 l2 => .ok (0, l2, x3))) else .bad)) (fun r => .ok r)) : ((List Station) ⊕ (Int × (List Bool) × (List Station))) → R (Int × (List Bool) × (List Station)))
          (fun j => fun x1 => fun (fr : Nat → AV) (h : AHeap) => ∃ (v2 : AV), ∃ (g2 : Nat), OwnV v2 (ix ids 0) g2 x1.length ∧ fr = frA [(0, (.int .i64 volumes)), (1, v2), (2, (.sl 3 (List.map rStatus l))), (3, (.int .i64 minute)), (8, (.ptr (ix ids 1) g1 0 0)), (32, v2), (33, (.int .i64 (l1.length : Int))), (34, (.int .i64 (j : Int)))] ∧ h = hp h0 ids [(ownO v2 g2 3 (List.map rStation x1)), (some (.rows g1 1 [[.emp]])), none, none, none]) l1 ?_ ?_ ?_
        · exact ⟨v1, g, vH, rfl, rfl⟩
        · rintro j a ha W hW x1 fr h ⟨v2, g2, vH1, rfl, rfl⟩
          refine wr_mod (m' := radar_Seen_2_b1 volumes j x1) rfl (wr_mod (radar_Seen_2_b1.eq_1 _ _ _) ?_)
          refine wr_seq ?_
          refine wr_region ?_
          refine wo_val (.bool (decide ((j : Int) < (l1.length : Int)))) rfl (pv_bin rfl rfl rfl) ?_
          refine wo_nil ?_
          refine wr_seq ?_
          refine wr_condT rfl (Int.ofNat_lt.2 (lt_of_get ha)) ?_
          refine wr_skip ?_
          refine wr_seq ?_
          refine wr_block ?_
          refine wr_seq ?_
          refine wr_region ?_
          refine of_idx fun a1 hz hx1 => ?_
          refine wo_val (.ptr (ix ids 0) g2 (j : Int).toNat 0) rfl (pv_ixa (ixa_own hI rfl vH1 rfl ti35 ti38 rfl hz hx1)) ?_
          refine wo_val (.agg (rStation a1)) rfl (pv_load (ld_own hI rfl vH1 rfl hx1 ti38 rfl)) ?_
          refine wo_alloc (j := 2) hI rfl rfl rfl rfl ti38 rfl fun g3 => ?_
          refine wo_store (st_ptr hI rfl rfl rfl rfl ti38 rfl rfl rfl rfl rfl) ?_
          refine wo_nil ?_
          refine wr_hp [(ownO v2 g2 3 (List.map rStation x1)), (some (.rows g1 1 [[.emp]])), (some (.rows g3 3 [(rStation a1)])), none, none] rfl ?_
          refine wr_seq ?_
          refine wr_region ?_
          refine wo_val (.int .i64 volumes) rfl pv_move ?_
          refine wo_val (.agg (rStation a1)) rfl (pv_load (ld_ptr hI rfl rfl rfl ti38 rfl)) ?_
          refine of_call [(.int .i64 volumes), (.agg (rStation a1))] rfl rfl rfl rfl ((cp_reports_Station volumes a1) _) (fun v _ => wu_panG (K := 1) (N := 4) Try.func17 hI) fun e _ => ?_
          refine wo_val (.int .i64 e) rfl pv_assign ?_
          refine wo_nil ?_
          refine wr_seq ?_
          refine wr_region ?_
          refine wo_val (.int .i64 e) rfl pv_move ?_
          refine wo_val (.bool (e != 0)) rfl (pv_bin rfl rfl rfl) ?_
          refine wo_nil ?_
          refine wf_iteb rfl (fun hc1 => ?_) (fun hc1 => ?_)
          · refine wr_seq ?_
            refine wr_region ?_
            refine wo_val (.int .i64 e) rfl pv_move ?_
            refine wo_store (st_ptr hI rfl rfl rfl rfl ti39 rfl rfl rfl rfl rfl) ?_
            refine wo_val (.int .i64 e) rfl pv_assign ?_
            refine wo_nil ?_
            refine wx_each ?_
            refine w_altr ?_
            exact wr_retG (K := 1) (N := 4) (a := (e, [], x1)) (vs := [.emp, (.int .i64 e)]) [ownO v2 g2 3 (List.map rStation x1)] Try.func17 hI rfl (ares_cell (ld_ptr hI rfl rfl rfl ti39 rfl) (ares_tmp ares_nil)) rfl (.keep (.drop (.drop (.keep (.keep .nil))))) (.tupL (.cons (.emp _) (.cons (.same _) .nil))) ⟨v2, g2, vH1, rfl, rfl⟩
          · refine wr_skip ?_
            refine wr_inBlock ?_
            refine wr_region ?_
            refine wo_val (.int .i64 (IntKind.wrap .i64 ((j : Int) + 1))) rfl (pv_bin rfl rfl rfl) ?_
            refine wo_val (.int .i64 (IntKind.wrap .i64 ((j : Int) + 1))) rfl pv_move ?_
            refine wo_nil ?_
            refine wr_drop [(ownO v2 g2 3 (List.map rStation x1)), (some (.rows g1 1 [[.emp]])), none, none, none] hI rfl (.keep (.keep (.drop (.keep (.keep .nil))))) ?_
            refine wr_is [(0, (.int .i64 volumes)), (1, v2), (2, (.sl 3 (List.map rStatus l))), (3, (.int .i64 minute)), (8, (.ptr (ix ids 1) g1 0 0)), (32, v2), (33, (.int .i64 (l1.length : Int))), (34, (.int .i64 ((j + 1 : Nat) : Int)))] (.cons rfl (.cons rfl (.cons rfl (.cons rfl (.cons rfl (.cons rfl (.cons rfl (.cons (inc_ok (lt_of_get ha) hlim) .nil)))))))) ?_
            refine wb_each ?_
            refine hW x1 _ _ ?_
            exact ⟨v2, g2, vH1, rfl, rfl⟩
        · rintro x1 fr h ⟨v2, g2, vH1, rfl, rfl⟩
          refine wr_mod (alt_inl _ _ _) ?_
          refine wr_seq ?_
          refine wr_region ?_
          refine wo_val (.bool (decide ((l1.length : Int) < (l1.length : Int)))) rfl (pv_bin rfl rfl rfl) ?_
          refine wo_nil ?_
          refine wr_seq ?_
          refine wr_condF rfl (Int.lt_irrefl _) ?_
          refine wr_exit rfl ?_
          refine wr_seq ?_
          refine wr_seq ?_
          refine wr_region ?_
          refine wo_val v2 rfl pv_move ?_
          refine wo_val (.int .i64 (x1.length : Int)) rfl (pv_len (OwnV.len vH1 ti35)) ?_
          refine wo_val (.sl 3 (List.map rStatus l)) rfl pv_move ?_
          refine of_call [(.int .i64 (x1.length : Int)), (.sl 3 (List.map rStatus l))] rfl rfl rfl rfl ((cp_radar_Check (x1.length : Int) l) _) (fun v _ => wu_panG (K := 1) (N := 4) Try.func17 hI) fun e1 _ => ?_
          refine wo_val (.int .i64 e1) rfl pv_assign ?_
          refine wo_nil ?_
          refine wr_seq ?_
          refine wr_region ?_
          refine wo_val (.int .i64 e1) rfl pv_move ?_
          refine wo_val (.bool (e1 != 0)) rfl (pv_bin rfl rfl rfl) ?_
          refine wo_nil ?_
          refine wf_iteb rfl (fun hc2 => ?_) (fun hc2 => ?_)
          · refine wr_seq ?_
            refine wr_region ?_
            refine wo_val (.int .i64 e1) rfl pv_move ?_
            refine wo_store (st_ptr hI rfl rfl rfl rfl ti39 rfl rfl rfl rfl rfl) ?_
            refine wo_val (.int .i64 e1) rfl pv_assign ?_
            refine wo_nil ?_
            exact wr_retG (K := 1) (N := 4) (a := (e1, [], x1)) (vs := [.emp, (.int .i64 e1)]) [ownO v2 g2 3 (List.map rStation x1)] Try.func17 hI rfl (ares_cell (ld_ptr hI rfl rfl rfl ti39 rfl) (ares_tmp ares_nil)) rfl (.keep (.drop (.keep (.keep (.keep .nil))))) (.tupL (.cons (.emp _) (.cons (.same _) .nil))) ⟨v2, g2, vH1, rfl, rfl⟩
          · refine wr_skip ?_
            refine wr_seq ?_
            refine wr_region ?_
            refine wo_val (.int .i64 volumes) rfl pv_move ?_
            refine of_need fun hl => ?_
            refine wo_make (y := (false : Bool)) (e := rB) (st := 1) (j := 3) hI rfl rfl rfl rfl ti39 ti4 rfl rfl hl.1 hl.2.1 hl.2.2 rfl rfl rfl rfl rfl fun v3 g4 vH2 => ?_
            refine wo_store (st_ptrO vH2 hI rfl rfl rfl rfl ti39 rfl rfl rfl) ?_
            refine wo_nil ?_
            refine wr_hp [(ownO v2 g2 3 (List.map rStation x1)), (some (.rows g1 1 [[v3]])), none, (ownO v3 g4 1 (List.map rB (List.replicate (Int.toNat volumes) false))), none] rfl ?_
            refine wr_seq ?_
            refine wr_region ?_
            refine wo_val (.func (.func 30) [] [(.ptr (ix ids 1) g1 0 0)]) rfl pv_func ?_
            refine wo_val (.func (.func 30) [] [(.ptr (ix ids 1) g1 0 0)]) rfl pv_assign ?_
            refine wo_nil ?_
            refine wr_seq ?_
            refine wr_seq ?_
            refine wr_region ?_
            refine wo_val v2 rfl pv_move ?_
            refine wo_val (.int .i64 (x1.length : Int)) rfl (pv_len (OwnV.len vH1 ti35)) ?_
            refine wo_val (.int .i64 0) rfl pv_move ?_
            refine wo_nil ?_
            refine wr_block ?_
            refine wr_limo (t := 1) rfl vH1 fun hlim1 => ?_
            refine wr_is [(2, (.sl 3 (List.map rStatus l))), (3, (.int .i64 minute)), (8, (.ptr (ix ids 1) g1 0 0)), (14, (.func (.func 30) [] [(.ptr (ix ids 1) g1 0 0)])), (55, v2), (56, (.int .i64 (x1.length : Int))), (57, (.int .i64 0))] (.cons rfl (.cons rfl (.cons rfl (.cons rfl (.cons rfl (.cons rfl (.cons rfl .nil))))))) ?_
            refine wf_eachS' (P := Try.prog) x1 (fun j1 _ => un2 fun x3 l2 => radar_Seen_2_b3 l minute j1 x3 l2) (((un2 fun x3 l2 => .ok (0, l2, x3))) : ((List Station) × (List Bool)) → R (Int × (List Bool) × (List Station)))
              (fun j1 => un2 fun x3 l2 => fun (fr : Nat → AV) (h : AHeap) => ∃ (v4 : AV), ∃ (g5 : Nat), ∃ (v5 : AV), ∃ (g6 : Nat), OwnV v4 (ix ids 0) g5 x3.length ∧ OwnV v5 (ix ids 3) g6 l2.length ∧ fr = frA [(2, (.sl 3 (List.map rStatus l))), (3, (.int .i64 minute)), (8, (.ptr (ix ids 1) g1 0 0)), (14, (.func (.func 30) [] [(.ptr (ix ids 1) g1 0 0)])), (55, v4), (56, (.int .i64 (x1.length : Int))), (57, (.int .i64 (j1 : Int)))] ∧ h = hp h0 ids [(ownO v4 g5 3 (List.map rStation x3)), (some (.rows g1 1 [[v5]])), none, (ownO v5 g6 1 (List.map rB l2)), none]) (x1, (List.replicate (Int.toNat volumes) false)) ?_ ?_ ?_
            · exact ⟨v2, g2, v3, g4, vH1, vH2, rfl, rfl⟩
            · rintro j1 a2 ha2 W hW1 ⟨x3, l2⟩ fr h ⟨v4, g5, v5, g6, vH3, vH4, rfl, rfl⟩
              refine wr_mod (m' := radar_Seen_2_b3 l minute j1 x3 l2) rfl (wr_mod (radar_Seen_2_b3.eq_1 _ _ _ _ _) ?_)
              refine wr_seq ?_
              refine wr_region ?_
              refine wo_val (.bool (decide ((j1 : Int) < (x1.length : Int)))) rfl (pv_bin rfl rfl rfl) ?_
              refine wo_nil ?_
              refine wr_seq ?_
              refine wr_condT rfl (Int.ofNat_lt.2 (lt_of_get ha2)) ?_
              refine wr_skip ?_
              refine wr_seq ?_
              refine wr_block ?_
              refine wr_seq ?_
              refine wr_region ?_
              refine wo_val (.int .i64 (j1 : Int)) rfl pv_move ?_
              refine of_idx fun a3 hz1 hx2 => ?_
              refine wo_val (.ptr (ix ids 0) g5 (j1 : Int).toNat 0) rfl (pv_ixa (ixa_own hI rfl vH3 rfl ti35 ti38 rfl hz1 hx2)) ?_
              refine wo_val (.agg (rStation a3)) rfl (pv_load (ld_own hI rfl vH3 rfl hx2 ti38 rfl)) ?_
              refine wo_alloc (j := 4) hI rfl rfl rfl rfl ti38 rfl fun g7 => ?_
              refine wo_val (.int .i64 (j1 : Int)) rfl pv_assign ?_
              refine wo_store (st_ptr hI rfl rfl rfl rfl ti38 rfl rfl rfl rfl rfl) ?_
              refine wo_nil ?_
              refine wr_hp [(ownO v4 g5 3 (List.map rStation x3)), (some (.rows g1 1 [[v5]])), none, (ownO v5 g6 1 (List.map rB l2)), (some (.rows g7 3 [(rStation a3)]))] rfl ?_
              refine wr_seq ?_
              refine wr_region ?_
              refine wo_val (.sl 3 (List.map rStatus l)) rfl pv_move ?_
              refine wo_val (.int .i64 (j1 : Int)) rfl pv_move ?_
              refine wo_val (.int .i64 minute) rfl pv_move ?_
              refine of_call [(.sl 3 (List.map rStatus l)), (.int .i64 (j1 : Int)), (.int .i64 minute)] rfl rfl rfl rfl ((cp_radar_Works l (j1 : Int) minute) _) (fun v _ => wu_panG (K := 1) (N := 4) Try.func17 hI) fun r2 _ => ?_
              refine wo_nil ?_
              refine wf_iteb rfl (fun hc3 => ?_) (fun hc3 => ?_)
              · refine wr_seq ?_
                refine wr_region ?_
                refine wo_val (.ptr (ix ids 4) g7 0 0) rfl (pv_fa (fa_ptr (c := 0) (off := 0) (i := 0) ti38 rfl ti36 rfl)) ?_
                refine wo_val (.sl 1 (List.map (rI .i64) a3.Volumes)) rfl (pv_load (ld_ptr hI rfl rfl rfl ti36 rfl)) ?_
                refine wo_val (.int .i64 (a3.Volumes.length : Int)) rfl (pv_len (len_sl ti36)) ?_
                refine wo_val (.int .i64 0) rfl pv_move ?_
                refine wo_nil ?_
                refine wr_block ?_
                refine wr_drop [(ownO v4 g5 3 (List.map rStation x3)), (some (.rows g1 1 [[v5]])), none, (ownO v5 g6 1 (List.map rB l2)), none] hI rfl (.keep (.keep (.keep (.keep (.drop .nil))))) ?_
                refine wr_is [(2, (.sl 3 (List.map rStatus l))), (3, (.int .i64 minute)), (8, (.ptr (ix ids 1) g1 0 0)), (14, (.func (.func 30) [] [(.ptr (ix ids 1) g1 0 0)])), (55, v4), (56, (.int .i64 (x1.length : Int))), (57, (.int .i64 (j1 : Int))), (67, (.sl 1 (List.map (rI .i64) a3.Volumes))), (68, (.int .i64 (a3.Volumes.length : Int))), (69, (.int .i64 0))] (.cons rfl (.cons rfl (.cons rfl (.cons rfl (.cons rfl (.cons rfl (.cons rfl (.cons rfl (.cons rfl (.cons rfl .nil)))))))))) ?_
                refine wf_eachS' (P := Try.prog) a3.Volumes (fun _ a4 => fun l3 => radar_Seen_2_b2 a4 l3) (((fun l3 => .ok (x3, l3))) : (List Bool) → R ((List Station) × (List Bool)))
                  (fun j2 => fun l3 => fun (fr : Nat → AV) (h : AHeap) => ∃ (v6 : AV), ∃ (g8 : Nat), OwnV v6 (ix ids 3) g8 l3.length ∧ fr = frA [(2, (.sl 3 (List.map rStatus l))), (3, (.int .i64 minute)), (8, (.ptr (ix ids 1) g1 0 0)), (14, (.func (.func 30) [] [(.ptr (ix ids 1) g1 0 0)])), (55, v4), (56, (.int .i64 (x1.length : Int))), (57, (.int .i64 (j1 : Int))), (67, (.sl 1 (List.map (rI .i64) a3.Volumes))), (68, (.int .i64 (a3.Volumes.length : Int))), (69, (.int .i64 (j2 : Int)))] ∧ h = hp h0 ids [(ownO v4 g5 3 (List.map rStation x3)), (some (.rows g1 1 [[v6]])), none, (ownO v6 g8 1 (List.map rB l3)), none]) l2 ?_ ?_ ?_
                · exact ⟨v5, g6, vH4, rfl, rfl⟩
                · rintro j2 a4 ha4 W hW2 l3 fr h ⟨v6, g8, vH5, rfl, rfl⟩
                  refine wr_mod (m' := radar_Seen_2_b2 a4 l3) rfl (wr_mod (radar_Seen_2_b2.eq_1 _ _) ?_)
                  refine wr_seq ?_
                  refine wr_region ?_
                  refine wo_val (.bool (decide ((j2 : Int) < (a3.Volumes.length : Int)))) rfl (pv_bin rfl rfl rfl) ?_
                  refine wo_nil ?_
                  refine wr_seq ?_
                  refine wr_lim (t := 67) (L := a3.Volumes) rfl fun hlim2 => ?_
                  refine wr_condT rfl (Int.ofNat_lt.2 (lt_of_get ha4)) ?_
                  refine wr_skip ?_
                  refine wr_seq ?_
                  refine wr_block ?_
                  refine wr_seq ?_
                  refine wr_region ?_
                  refine wo_val (.cp [(.int .i64 a4)] 0) rfl (pv_ixa (ixa_nat ti36 ti3 rfl ha4)) ?_
                  refine wo_val (.int .i64 a4) rfl (pv_load (ld_cp ti3 rfl)) ?_
                  refine wo_val (.int .i64 a4) rfl pv_assign ?_
                  refine wo_nil ?_
                  refine wr_region ?_
                  refine wo_val (.func (.func 30) [] [(.ptr (ix ids 1) g1 0 0)]) rfl pv_move ?_
                  refine wo_val (.int .i64 a4) rfl pv_move ?_
                  refine of_callG [1, 3] hI rfl rfl (cg_radar_Seen_c1 a4 l3 _ (ix ids 1) (ix ids 3) g1 v6 g8 vH5 (by exact hI.sub' rfl rfl)) rfl rfl rfl rfl rfl rfl (fun v _ => wu_panG (K := 1) (N := 4) Try.func17 hI) ?_
                  rintro _ _ _ _ ⟨rfl, rfl⟩
                  refine wo_putH [1, 3] [ownO v4 g5 3 (List.map rStation x3), some (.rows g1 1 [[v6]]), none, ownO v6 g8 1 (List.map rB (l3.set a4.toNat true)), none] hI rfl rfl rfl rfl ?_
                  refine wo_put1 ?_
                  refine wo_nil ?_
                  refine wr_hp [(ownO v4 g5 3 (List.map rStation x3)), (some (.rows g1 1 [[v6]])), none, (ownO v6 g8 1 (List.map rB (l3.set a4.toNat true))), none] rfl ?_
                  refine wr_inBlock ?_
                  refine wr_region ?_
                  refine wo_val (.int .i64 (IntKind.wrap .i64 ((j2 : Int) + 1))) rfl (pv_bin rfl rfl rfl) ?_
                  refine wo_val (.int .i64 (IntKind.wrap .i64 ((j2 : Int) + 1))) rfl pv_move ?_
                  refine wo_nil ?_
                  refine wr_is [(2, (.sl 3 (List.map rStatus l))), (3, (.int .i64 minute)), (8, (.ptr (ix ids 1) g1 0 0)), (14, (.func (.func 30) [] [(.ptr (ix ids 1) g1 0 0)])), (55, v4), (56, (.int .i64 (x1.length : Int))), (57, (.int .i64 (j1 : Int))), (67, (.sl 1 (List.map (rI .i64) a3.Volumes))), (68, (.int .i64 (a3.Volumes.length : Int))), (69, (.int .i64 ((j2 + 1 : Nat) : Int)))] (.cons rfl (.cons rfl (.cons rfl (.cons rfl (.cons rfl (.cons rfl (.cons rfl (.cons rfl (.cons rfl (.cons (inc_ok (lt_of_get ha4) hlim2) .nil)))))))))) ?_
                  refine wb_S ?_
                  refine hW2 (l3.set a4.toNat true) _ _ ?_
                  exact ⟨v6, g8, (OwnV.set (i := a4.toNat) (y := true) vH5), rfl, rfl⟩
                · rintro l3 fr h ⟨v6, g8, vH5, rfl, rfl⟩
                  refine wr_seq ?_
                  refine wr_region ?_
                  refine wo_val (.bool (decide ((a3.Volumes.length : Int) < (a3.Volumes.length : Int)))) rfl (pv_bin rfl rfl rfl) ?_
                  refine wo_nil ?_
                  refine wr_seq ?_
                  refine wr_condF rfl (Int.lt_irrefl _) ?_
                  refine wr_exit rfl ?_
                  refine wr_inBlock ?_
                  refine wr_region ?_
                  refine wo_val (.int .i64 (IntKind.wrap .i64 ((j1 : Int) + 1))) rfl (pv_bin rfl rfl rfl) ?_
                  refine wo_val (.int .i64 (IntKind.wrap .i64 ((j1 : Int) + 1))) rfl pv_move ?_
                  refine wo_nil ?_
                  refine wr_is [(2, (.sl 3 (List.map rStatus l))), (3, (.int .i64 minute)), (8, (.ptr (ix ids 1) g1 0 0)), (14, (.func (.func 30) [] [(.ptr (ix ids 1) g1 0 0)])), (55, v4), (56, (.int .i64 (x1.length : Int))), (57, (.int .i64 ((j1 + 1 : Nat) : Int)))] (.cons rfl (.cons rfl (.cons rfl (.cons rfl (.cons rfl (.cons rfl (.cons (inc_ok (lt_of_get ha2) hlim1) .nil))))))) ?_
                  refine wb_S ?_
                  refine hW1 (x3, l3) _ _ ?_
                  exact ⟨v4, g5, v6, g8, vH3, vH5, rfl, rfl⟩
              · refine wr_skip ?_
                refine wr_inBlock ?_
                refine wr_region ?_
                refine wo_val (.int .i64 (IntKind.wrap .i64 ((j1 : Int) + 1))) rfl (pv_bin rfl rfl rfl) ?_
                refine wo_val (.int .i64 (IntKind.wrap .i64 ((j1 : Int) + 1))) rfl pv_move ?_
                refine wo_nil ?_
                refine wr_drop [(ownO v4 g5 3 (List.map rStation x3)), (some (.rows g1 1 [[v5]])), none, (ownO v5 g6 1 (List.map rB l2)), none] hI rfl (.keep (.keep (.keep (.keep (.drop .nil))))) ?_
                refine wr_is [(2, (.sl 3 (List.map rStatus l))), (3, (.int .i64 minute)), (8, (.ptr (ix ids 1) g1 0 0)), (14, (.func (.func 30) [] [(.ptr (ix ids 1) g1 0 0)])), (55, v4), (56, (.int .i64 (x1.length : Int))), (57, (.int .i64 ((j1 + 1 : Nat) : Int)))] (.cons rfl (.cons rfl (.cons rfl (.cons rfl (.cons rfl (.cons rfl (.cons (inc_ok (lt_of_get ha2) hlim1) .nil))))))) ?_
                refine wb_S ?_
                refine hW1 (x3, l2) _ _ ?_
                exact ⟨v4, g5, v5, g6, vH3, vH4, rfl, rfl⟩
            · rintro ⟨x3, l2⟩ fr h ⟨v4, g5, v5, g6, vH3, vH4, rfl, rfl⟩
              refine wr_mod (un2_mk _ _ _) ?_
              refine wr_seq ?_
              refine wr_region ?_
              refine wo_val (.bool (decide ((x1.length : Int) < (x1.length : Int)))) rfl (pv_bin rfl rfl rfl) ?_
              refine wo_nil ?_
              refine wr_seq ?_
              refine wr_condF rfl (Int.lt_irrefl _) ?_
              refine wr_exit rfl ?_
              refine wr_seq ?_
              refine wr_region ?_
              refine wo_val v5 rfl (pv_load (ld_ptr hI rfl rfl rfl ti39 rfl)) ?_
              refine wo_store (st_ptrO vH4 hI rfl rfl rfl rfl ti39 rfl rfl rfl) ?_
              refine wo_val (.int .i64 0) rfl pv_assign ?_
              refine wo_nil ?_
              exact wr_retG (K := 1) (N := 4) (a := (0, l2, x3)) (vs := [v5, (.int .i64 0)]) [ownO v4 g5 3 (List.map rStation x3)] Try.func17 hI rfl (ares_cell (ld_ptr hI rfl rfl rfl ti39 rfl) (ares_tmp ares_nil)) rfl (.keep (.drop (.keep (.drop (.keep .nil))))) (.tupL (.cons (own_fz vH4 (hI.at rfl rfl) (hI.at rfl rfl) (fun x => ok_B x)) (.cons (.same _) .nil))) ⟨v4, g5, vH3, rfl, rfl⟩
    · refine wo_not (tj := 27) (b := true) rfl (congrArg AV.bool hb3) rfl rfl ?_
      refine wo_not (tj := 27) (b := true) rfl (congrArg AV.bool hb3) rfl rfl ?_
      refine wo_not (tj := 27) (b := true) rfl (congrArg AV.bool hb3) rfl rfl ?_
      refine wo_val (.bool true) rfl (pv_pick (t := true) (congrArg AV.bool hb3) rfl) ?_
      refine wo_back1 ?_
      refine wo_is [(0, (.int .i64 volumes)), (1, v1), (2, (.sl 3 (List.map rStatus l))), (3, (.int .i64 minute)), (8, (.ptr (ix ids 1) g1 0 0)), (31, (.bool true))] (.cons rfl (.cons rfl (.cons rfl (.cons rfl (.cons rfl (.cons rfl .nil)))))) ?_
      exact hJ1 true _ _ ⟨rfl, rfl⟩
    · refine wo_valg (tj := 27) (.int .i64 minute) rfl (congrArg AV.bool hb3) rfl pv_move ?_
      refine of_call [(.int .i64 minute), (.int .i64 0), (.int .i64 1439)] rfl (wanted_yes (tj := 27) rfl (congrArg AV.bool hb3)) rfl rfl ((cp_radar_in minute 0 1439) _) (fun v _ => wu_panG (K := 1) (N := 4) Try.func17 hI) fun r1 _ => ?_
      refine wo_valg (tj := 27) (.bool (!r1)) rfl (congrArg AV.bool hb3) rfl (pv_un rfl) ?_
      refine wo_val (.bool (!r1)) rfl (pv_pick (t := false) (congrArg AV.bool hb3) rfl) ?_
      refine wo_back1 ?_
      refine wo_is [(0, (.int .i64 volumes)), (1, v1), (2, (.sl 3 (List.map rStatus l))), (3, (.int .i64 minute)), (8, (.ptr (ix ids 1) g1 0 0)), (31, (.bool (!r1)))] (.cons rfl (.cons rfl (.cons rfl (.cons rfl (.cons rfl (.cons rfl .nil)))))) ?_
      exact hJ1 (!r1) _ _ ⟨rfl, rfl⟩
  · refine wo_not (tj := 22) (b := true) rfl (congrArg AV.bool hb1) rfl rfl ?_
    refine wo_not (tj := 22) (b := true) rfl (congrArg AV.bool hb1) rfl rfl ?_
    refine wo_not (tj := 22) (b := true) rfl (congrArg AV.bool hb1) rfl rfl ?_
    refine wo_val (.bool true) rfl (pv_pick (t := true) (congrArg AV.bool hb1) rfl) ?_
    exact wo_is [(0, (.int .i64 volumes)), (1, v1), (2, (.sl 3 (List.map rStatus l))), (3, (.int .i64 minute)), (8, (.ptr (ix ids 1) g1 0 0)), (26, (.bool ((!r) || (decide ((l1.length : Int) > 4)))))] (.cons rfl (.cons rfl (.cons rfl (.cons rfl (.cons rfl (.cons (or_t hb1) .nil)))))) hJ
  · refine wo_valg (tj := 22) v1 rfl (congrArg AV.bool hb1) rfl pv_move ?_
    refine wo_valg (tj := 22) (.int .i64 (l1.length : Int)) rfl (congrArg AV.bool hb1) rfl (pv_len (OwnV.len vH ti35)) ?_
    refine wo_valg (tj := 22) (.bool (decide ((l1.length : Int) > 4))) rfl (congrArg AV.bool hb1) rfl (pv_bin rfl rfl rfl) ?_
    refine wo_val (.bool (decide ((l1.length : Int) > 4))) rfl (pv_pick (t := false) (congrArg AV.bool hb1) rfl) ?_
    exact wo_is [(0, (.int .i64 volumes)), (1, v1), (2, (.sl 3 (List.map rStatus l))), (3, (.int .i64 minute)), (8, (.ptr (ix ids 1) g1 0 0)), (26, (.bool ((!r) || (decide ((l1.length : Int) > 4)))))] (.cons rfl (.cons rfl (.cons rfl (.cons rfl (.cons rfl (.cons (or_f hb1) .nil)))))) hJ

theorem cp_law26_RadarMore (volumes : Int) (s : (List Station)) (l : (List Status)) (more : Station) (minute : Int) : CP Try.prog 5 [(.int .i64 volumes), (.sl 3 (List.map rStation s)), (.sl 3 (List.map rStatus l)), (.agg (rStation more)), (.int .i64 minute)] (law26_RadarMore volumes s l more minute) (fun (x : Bool) => (AV.bool x)) := by
  refine cp_intro (n := 108) 3 Try.func5 rfl (by decide) rfl rfl fun h0 ids hI => ?_
  refine wr_in (wr_mod (law26_RadarMore.eq_1 _ _ _ _ _) ?_)
  refine wr_seq ?_
  refine wr_region ?_
  refine wo_box (v := (.agg (rStation more))) (j := 0) hI rfl rfl rfl rfl rfl rfl rfl fun g => ?_
  refine wo_val (.bool false) rfl pv_assign ?_
  refine wo_nil ?_
  refine wr_hp [(some (.rows g 3 [(rStation more)])), none, none] rfl ?_
  refine wr_seq ?_
  refine wr_seq ?_
  refine wr_region ?_
  refine of_call [] rfl rfl rfl rfl ((cp_law26_sane) _) (fun v _ => wu_pan Try.func5 hI) fun r _ => ?_
  refine wo_val (.bool (!r)) rfl (pv_un rfl) ?_
  refine wo_nil ?_
  refine wf_itebn rfl (fun hc => ?_) (fun hc => ?_)
  · refine wr_skip ?_
    refine wr_seq ?_
    refine wr_seq ?_
    refine wf_join (fun x => law26_RadarMore_j3 volumes s l more minute r x) (fun x => fun (fr : Nat → AV) (h : AHeap) => fr = frA [(0, (.int .i64 volumes)), (1, (.sl 3 (List.map rStation s))), (2, (.sl 3 (List.map rStatus l))), (4, (.int .i64 minute)), (8, (.ptr (ix ids 0) g 0 0)), (29, (.bool x))] ∧ h = hp h0 ids [(some (.rows g 3 [(rStation more)])), none, none]) ?_ fun hJ4 => ?_
    · rintro x fr h ⟨rfl, rfl⟩
      refine wr_mod (law26_RadarMore_j3.eq_1 _ _ _ _ _ _ _) ?_
      refine wf_iteb rfl (fun hc1 => ?_) (fun hc1 => ?_)
      · refine wr_seq ?_
        refine wr_region ?_
        refine wo_val (.bool true) rfl pv_assign ?_
        refine wo_nil ?_
        exact wr_ret (a := true) (vs := [(.bool true)]) Try.func5 hI rfl (.same _)
      · refine wr_skip ?_
        refine wr_seq ?_
        refine wr_region ?_
        refine wo_val (.int .i64 volumes) rfl pv_move ?_
        refine wo_val (.sl 3 (List.map rStation s)) rfl pv_move ?_
        refine wo_val (.sl 3 (List.map rStatus l)) rfl pv_move ?_
        refine wo_val (.int .i64 minute) rfl pv_move ?_
        refine of_call [(.int .i64 volumes), (.sl 3 (List.map rStation s)), (.sl 3 (List.map rStatus l)), (.int .i64 minute)] rfl rfl rfl rfl ((cp_radar_Seen volumes s l minute) _) (fun v _ => wu_pan Try.func5 hI) fun r4 _ => ?_
        refine wo_val (.tup [(.sl 1 (List.map rB r4.1)), (.int .i64 r4.2)]) rfl pv_move ?_
        refine wo_val (.sl 1 (List.map rB r4.1)) rfl (pv_ext rfl) ?_
        refine wo_val (.int .i64 r4.2) rfl (pv_ext rfl) ?_
        refine wo_val (.sl 1 (List.map rB r4.1)) rfl pv_assign ?_
        refine wo_val (.int .i64 r4.2) rfl pv_assign ?_
        refine wo_nil ?_
        refine wr_seq ?_
        refine wf_join (un2 fun y f => law26_RadarMore_j2 more r r4 y f) (un2 fun y f => fun (fr : Nat → AV) (h : AHeap) => fr = frA [(8, (.ptr (ix ids 0) g 0 0)), (11, (.sl 1 (List.map rB r4.1))), (12, (.int .i64 r4.2)), (13, (.sl 1 (List.map rB y))), (14, (.int .i64 f))] ∧ h = hp h0 ids [(some (.rows g 3 [(rStation more)])), none, none]) ?_ fun hJ3 => ?_
        · rintro ⟨y, f⟩ fr h ⟨rfl, rfl⟩
          refine wr_mod (law26_RadarMore_j2.eq_1 _ _ _ _ _) ?_
          refine wr_seq ?_
          refine wr_seq ?_
          refine wr_region ?_
          refine wo_val (.int .i64 r4.2) rfl pv_move ?_
          refine wo_val (.bool (r4.2 != 0)) rfl (pv_bin rfl rfl rfl) ?_
          refine wo_val (.bool (r4.2 != 0)) rfl pv_move ?_
          refine wo_meet 3 [(8, (.ptr (ix ids 0) g 0 0)), (11, (.sl 1 (List.map rB r4.1))), (13, (.sl 1 (List.map rB y))), (56, (.bool ((r4.2 != 0) || (f != 0))))] ?_ fun hJ => wo_cases (r4.2 != 0) (fun hb1 => ?_) (fun hb1 => ?_)
          · refine wo_nil ?_
            refine wf_iteb rfl (fun hc2 => ?_) (fun hc2 => ?_)
            · refine wr_seq ?_
              refine wr_region ?_
              refine wo_val (.bool true) rfl pv_assign ?_
              refine wo_nil ?_
              exact wr_ret (a := true) (vs := [(.bool true)]) Try.func5 hI rfl (.same _)
            · refine wr_skip ?_
              refine wr_seq ?_
              refine wr_seq ?_
              refine wr_region ?_
              refine wo_val (.sl 1 (List.map rB r4.1)) rfl pv_move ?_
              refine wo_val (.int .i64 (r4.1.length : Int)) rfl (pv_len (len_sl ti39)) ?_
              refine wo_val (.sl 1 (List.map rB y)) rfl pv_move ?_
              refine wo_val (.int .i64 (y.length : Int)) rfl (pv_len (len_sl ti39)) ?_
              refine wo_val (.bool ((r4.1.length : Int) != (y.length : Int))) rfl (pv_bin rfl rfl rfl) ?_
              refine wo_nil ?_
              refine wf_iteb rfl (fun hc3 => ?_) (fun hc3 => ?_)
              · refine wr_seq ?_
                refine wr_region ?_
                refine wo_val (.bool false) rfl pv_assign ?_
                refine wo_nil ?_
                exact wr_ret (a := false) (vs := [(.bool false)]) Try.func5 hI rfl (.same _)
              · refine wr_skip ?_
                refine wr_seq ?_
                refine wr_seq ?_
                refine wr_region ?_
                refine wo_val (.sl 1 (List.map rB r4.1)) rfl pv_move ?_
                refine wo_val (.int .i64 (r4.1.length : Int)) rfl (pv_len (len_sl ti39)) ?_
                refine wo_val (.int .i64 0) rfl pv_move ?_
                refine wo_nil ?_
                refine wr_block ?_
                refine wr_is [(8, (.ptr (ix ids 0) g 0 0)), (11, (.sl 1 (List.map rB r4.1))), (13, (.sl 1 (List.map rB y))), (63, (.int .i64 (r4.1.length : Int))), (64, (.int .i64 0))] (.cons rfl (.cons rfl (.cons rfl (.cons rfl (.cons rfl .nil))))) ?_
                refine wf_each' (P := Try.prog) r4.1 (fun j a => fun _ => law26_RadarMore_b2 more y j a) ((alt (fun _ => .ok true) (fun r => .ok r)) : (Unit ⊕ Bool) → R Bool)
                  (fun j => fun _ => fun (fr : Nat → AV) (h : AHeap) => fr = frA [(8, (.ptr (ix ids 0) g 0 0)), (11, (.sl 1 (List.map rB r4.1))), (13, (.sl 1 (List.map rB y))), (63, (.int .i64 (r4.1.length : Int))), (64, (.int .i64 (j : Int)))] ∧ h = hp h0 ids [(some (.rows g 3 [(rStation more)])), none, none]) () ?_ ?_ ?_
                · exact ⟨rfl, rfl⟩
                · rintro j a ha W hW _ fr h ⟨rfl, rfl⟩
                  refine wr_mod (m' := law26_RadarMore_b2 more y j a) rfl (wr_mod (law26_RadarMore_b2.eq_1 _ _ _ _) ?_)
                  refine wr_seq ?_
                  refine wr_region ?_
                  refine wo_val (.bool (decide ((j : Int) < (r4.1.length : Int)))) rfl (pv_bin rfl rfl rfl) ?_
                  refine wo_nil ?_
                  refine wr_seq ?_
                  refine wr_lim (t := 11) (L := r4.1) rfl fun hlim => ?_
                  refine wr_condT rfl (Int.ofNat_lt.2 (lt_of_get ha)) ?_
                  refine wr_skip ?_
                  refine wr_seq ?_
                  refine wr_block ?_
                  refine wr_seq ?_
                  refine wr_region ?_
                  refine wo_val (.int .i64 (j : Int)) rfl pv_move ?_
                  refine wo_val (.int .i64 (j : Int)) rfl pv_assign ?_
                  refine wo_nil ?_
                  refine wr_seq ?_
                  refine wr_region ?_
                  refine wo_val (.bool false) rfl pv_assign ?_
                  refine wo_nil ?_
                  refine wr_seq ?_
                  refine wr_seq ?_
                  refine wr_region ?_
                  refine wo_val (.ptr (ix ids 0) g 0 0) rfl (pv_fa (fa_ptr (c := 0) (off := 0) (i := 0) ti38 rfl ti36 rfl)) ?_
                  refine wo_val (.sl 1 (List.map (rI .i64) more.Volumes)) rfl (pv_load (ld_ptr hI rfl rfl rfl ti36 rfl)) ?_
                  refine wo_val (.int .i64 (more.Volumes.length : Int)) rfl (pv_len (len_sl ti36)) ?_
                  refine wo_val (.int .i64 0) rfl pv_move ?_
                  refine wo_nil ?_
                  refine wr_block ?_
                  refine wr_is [(8, (.ptr (ix ids 0) g 0 0)), (11, (.sl 1 (List.map rB r4.1))), (13, (.sl 1 (List.map rB y))), (15, (.int .i64 (j : Int))), (16, (.bool false)), (63, (.int .i64 (r4.1.length : Int))), (64, (.int .i64 (j : Int))), (68, (.sl 1 (List.map (rI .i64) more.Volumes))), (69, (.int .i64 (more.Volumes.length : Int))), (70, (.int .i64 0))] (.cons rfl (.cons rfl (.cons rfl (.cons rfl (.cons rfl (.cons rfl (.cons rfl (.cons rfl (.cons rfl (.cons rfl .nil)))))))))) ?_
                  refine wf_eachS' (P := Try.prog) more.Volumes (fun _ a1 => fun sees => law26_RadarMore_b1 j a1 sees) (((fun sees => if a then
((idx y (j : Int)).bind fun a2 =>
  if (!a2) then
(law26_RadarMore_j1 true)
else
(if (!sees) then
(law26_RadarMore_j1 (!(a == a2)))
else
(law26_RadarMore_j1 false)))
else
(if (!sees) then
((idx y (j : Int)).bind fun a3 =>
  law26_RadarMore_j1 (!(a == a3)))
else
(law26_RadarMore_j1 false)))) : Bool → R (Unit ⊕ Bool))
                    (fun j1 => fun sees => fun (fr : Nat → AV) (h : AHeap) => fr = frA [(8, (.ptr (ix ids 0) g 0 0)), (11, (.sl 1 (List.map rB r4.1))), (13, (.sl 1 (List.map rB y))), (15, (.int .i64 (j : Int))), (16, (.bool sees)), (63, (.int .i64 (r4.1.length : Int))), (64, (.int .i64 (j : Int))), (68, (.sl 1 (List.map (rI .i64) more.Volumes))), (69, (.int .i64 (more.Volumes.length : Int))), (70, (.int .i64 (j1 : Int)))] ∧ h = hp h0 ids [(some (.rows g 3 [(rStation more)])), none, none]) false ?_ ?_ ?_
                  · exact ⟨rfl, rfl⟩
                  · rintro j1 a1 ha1 W hW1 sees fr h ⟨rfl, rfl⟩
                    refine wr_mod (m' := law26_RadarMore_b1 j a1 sees) rfl (wr_mod (law26_RadarMore_b1.eq_1 _ _ _) ?_)
                    refine wr_seq ?_
                    refine wr_region ?_
                    refine wo_val (.bool (decide ((j1 : Int) < (more.Volumes.length : Int)))) rfl (pv_bin rfl rfl rfl) ?_
                    refine wo_nil ?_
                    refine wr_seq ?_
                    refine wr_lim (t := 68) (L := more.Volumes) rfl fun hlim1 => ?_
                    refine wr_condT rfl (Int.ofNat_lt.2 (lt_of_get ha1)) ?_
                    refine wr_skip ?_
                    refine wr_seq ?_
                    refine wr_block ?_
                    refine wr_seq ?_
                    refine wr_region ?_
                    refine wo_val (.cp [(.int .i64 a1)] 0) rfl (pv_ixa (ixa_nat ti36 ti3 rfl ha1)) ?_
                    refine wo_val (.int .i64 a1) rfl (pv_load (ld_cp ti3 rfl)) ?_
                    refine wo_val (.int .i64 a1) rfl pv_assign ?_
                    refine wo_nil ?_
                    refine wr_region ?_
                    refine wo_val (.bool sees) rfl pv_move ?_
                    refine wo_val (.bool sees) rfl pv_move ?_
                    refine wo_meet 4 [(8, (.ptr (ix ids 0) g 0 0)), (11, (.sl 1 (List.map rB r4.1))), (13, (.sl 1 (List.map rB y))), (15, (.int .i64 (j : Int))), (63, (.int .i64 (r4.1.length : Int))), (64, (.int .i64 (j : Int))), (68, (.sl 1 (List.map (rI .i64) more.Volumes))), (69, (.int .i64 (more.Volumes.length : Int))), (70, (.int .i64 (j1 : Int))), (79, (.bool (sees || (a1 == (j : Int)))))] ?_ fun hJ1 => wo_cases sees (fun hb3 => ?_) (fun hb3 => ?_)
                    · refine wo_val (.bool (sees || (a1 == (j : Int)))) rfl pv_assign ?_
                      refine wo_nil ?_
                      refine wr_inBlock ?_
                      refine wr_region ?_
                      refine wo_val (.int .i64 (IntKind.wrap .i64 ((j1 : Int) + 1))) rfl (pv_bin rfl rfl rfl) ?_
                      refine wo_val (.int .i64 (IntKind.wrap .i64 ((j1 : Int) + 1))) rfl pv_move ?_
                      refine wo_nil ?_
                      refine wr_is [(8, (.ptr (ix ids 0) g 0 0)), (11, (.sl 1 (List.map rB r4.1))), (13, (.sl 1 (List.map rB y))), (15, (.int .i64 (j : Int))), (16, (.bool (sees || (a1 == (j : Int))))), (63, (.int .i64 (r4.1.length : Int))), (64, (.int .i64 (j : Int))), (68, (.sl 1 (List.map (rI .i64) more.Volumes))), (69, (.int .i64 (more.Volumes.length : Int))), (70, (.int .i64 ((j1 + 1 : Nat) : Int)))] (.cons rfl (.cons rfl (.cons rfl (.cons rfl (.cons rfl (.cons rfl (.cons rfl (.cons rfl (.cons rfl (.cons (inc_ok (lt_of_get ha1) hlim1) .nil)))))))))) ?_
                      refine wb_S ?_
                      refine hW1 (sees || (a1 == (j : Int))) _ _ ?_
                      exact ⟨rfl, rfl⟩
                    · refine wo_not (tj := 75) (b := true) rfl (congrArg AV.bool hb3) rfl rfl ?_
                      refine wo_not (tj := 75) (b := true) rfl (congrArg AV.bool hb3) rfl rfl ?_
                      refine wo_not (tj := 75) (b := true) rfl (congrArg AV.bool hb3) rfl rfl ?_
                      refine wo_val (.bool true) rfl (pv_pick (t := true) (congrArg AV.bool hb3) rfl) ?_
                      exact wo_is [(8, (.ptr (ix ids 0) g 0 0)), (11, (.sl 1 (List.map rB r4.1))), (13, (.sl 1 (List.map rB y))), (15, (.int .i64 (j : Int))), (63, (.int .i64 (r4.1.length : Int))), (64, (.int .i64 (j : Int))), (68, (.sl 1 (List.map (rI .i64) more.Volumes))), (69, (.int .i64 (more.Volumes.length : Int))), (70, (.int .i64 (j1 : Int))), (79, (.bool (sees || (a1 == (j : Int)))))] (.cons rfl (.cons rfl (.cons rfl (.cons rfl (.cons rfl (.cons rfl (.cons rfl (.cons rfl (.cons rfl (.cons (or_t hb3) .nil)))))))))) hJ1
                    · refine wo_valg (tj := 75) (.int .i64 a1) rfl (congrArg AV.bool hb3) rfl pv_move ?_
                      refine wo_valg (tj := 75) (.int .i64 (j : Int)) rfl (congrArg AV.bool hb3) rfl pv_move ?_
                      refine wo_valg (tj := 75) (.bool (a1 == (j : Int))) rfl (congrArg AV.bool hb3) rfl (pv_bin rfl rfl rfl) ?_
                      refine wo_val (.bool (a1 == (j : Int))) rfl (pv_pick (t := false) (congrArg AV.bool hb3) rfl) ?_
                      exact wo_is [(8, (.ptr (ix ids 0) g 0 0)), (11, (.sl 1 (List.map rB r4.1))), (13, (.sl 1 (List.map rB y))), (15, (.int .i64 (j : Int))), (63, (.int .i64 (r4.1.length : Int))), (64, (.int .i64 (j : Int))), (68, (.sl 1 (List.map (rI .i64) more.Volumes))), (69, (.int .i64 (more.Volumes.length : Int))), (70, (.int .i64 (j1 : Int))), (79, (.bool (sees || (a1 == (j : Int)))))] (.cons rfl (.cons rfl (.cons rfl (.cons rfl (.cons rfl (.cons rfl (.cons rfl (.cons rfl (.cons rfl (.cons (or_f hb3) .nil)))))))))) hJ1
                  · rintro sees fr h ⟨rfl, rfl⟩
                    refine wr_seq ?_
                    refine wr_region ?_
                    refine wo_val (.bool (decide ((more.Volumes.length : Int) < (more.Volumes.length : Int)))) rfl (pv_bin rfl rfl rfl) ?_
                    refine wo_nil ?_
                    refine wr_seq ?_
                    refine wr_condF rfl (Int.lt_irrefl _) ?_
                    refine wr_exit rfl ?_
                    refine wr_seq ?_
                    refine wf_join (fun x3 => law26_RadarMore_j1 x3) (fun x3 => fun (fr : Nat → AV) (h : AHeap) => fr = frA [(8, (.ptr (ix ids 0) g 0 0)), (11, (.sl 1 (List.map rB r4.1))), (13, (.sl 1 (List.map rB y))), (63, (.int .i64 (r4.1.length : Int))), (64, (.int .i64 (j : Int))), (106, (.bool x3))] ∧ h = hp h0 ids [(some (.rows g 3 [(rStation more)])), none, none]) ?_ fun hJ2 => ?_
                    · rintro x3 fr h ⟨rfl, rfl⟩
                      refine wr_mod (law26_RadarMore_j1.eq_1 _) ?_
                      refine wf_iteb rfl (fun hc4 => ?_) (fun hc4 => ?_)
                      · refine wr_seq ?_
                        refine wr_region ?_
                        refine wo_val (.bool false) rfl pv_assign ?_
                        refine wo_nil ?_
                        refine wx_each ?_
                        refine w_altr ?_
                        exact wr_ret (a := false) (vs := [(.bool false)]) Try.func5 hI rfl (.same _)
                      · refine wr_skip ?_
                        refine wr_inBlock ?_
                        refine wr_region ?_
                        refine wo_val (.int .i64 (IntKind.wrap .i64 ((j : Int) + 1))) rfl (pv_bin rfl rfl rfl) ?_
                        refine wo_val (.int .i64 (IntKind.wrap .i64 ((j : Int) + 1))) rfl pv_move ?_
                        refine wo_nil ?_
                        refine wr_is [(8, (.ptr (ix ids 0) g 0 0)), (11, (.sl 1 (List.map rB r4.1))), (13, (.sl 1 (List.map rB y))), (63, (.int .i64 (r4.1.length : Int))), (64, (.int .i64 ((j + 1 : Nat) : Int)))] (.cons rfl (.cons rfl (.cons rfl (.cons rfl (.cons (inc_ok (lt_of_get ha) hlim) .nil))))) ?_
                        refine wb_each ?_
                        refine hW () _ _ ?_
                        exact ⟨rfl, rfl⟩
                    · refine wr_draw hmix [[], [], [0, 1], [0, 1, 2], [0, 1, 2, 3], [0, 1, 2, 3, 4], [0, 1, 2, 3, 4], [0, 1, 2, 3, 4, 5, 6], [0, 1, 2, 3, 4, 5, 6, 7], [0, 1, 2, 3, 4, 5, 6, 7, 8], [0, 1, 2, 3, 4, 5, 6, 7, 8, 9], [0, 1, 2, 3, 4, 5, 6, 7, 8, 9, 10], [0, 1, 2, 3, 4, 5, 6, 7, 8, 9, 10, 11], [0, 1, 2, 3, 4, 5, 6, 7, 8, 9, 10, 11, 12], [0, 1, 2, 3, 4, 5, 6, 7, 8, 9, 10, 11, 12, 13], [0, 1, 2, 3, 4, 5, 6, 7, 8, 9, 10, 11, 12, 13, 14], [0, 1, 2, 3, 4, 5, 6, 7, 8, 9, 10, 11, 12, 13, 14], [0, 1, 2, 3, 4, 5, 6, 7, 8, 9, 10, 11, 12, 13, 14, 15, 16], [0, 1, 2, 3, 4, 5, 6, 7, 8, 9, 10, 11, 12, 13, 14, 15, 16, 17], [0, 1, 2, 3, 4, 5, 6, 7, 8, 9, 10, 11, 12, 13, 14], [0, 1, 2, 3, 4, 5, 6, 7, 8, 9, 10, 11, 12, 13, 14], [0, 1, 2, 3, 4, 5, 6, 7, 8, 9, 10, 11, 12, 13, 14, 19, 20], [0, 1, 2, 3, 4, 5, 6, 7, 8, 9, 10, 11, 12, 13, 14, 19, 20, 21], [0, 1, 2, 3, 4, 5, 6, 7, 8, 9, 10, 11, 12, 13, 14, 15, 16, 17, 18, 19, 20, 21, 22], [0, 1, 2, 3, 4, 5, 6, 7, 8, 9, 10, 11, 12, 13, 14, 15, 16, 17, 18, 19, 20, 21, 22, 23], [0, 1, 2, 3, 4, 5, 6, 7, 8, 9, 10, 11, 12, 13, 14, 15, 16, 17, 18, 19, 20, 21, 22, 23, 24]] [(false, 0), (false, 1), (false, 2), (false, 3), (false, 4), (false, 5), (false, 6), (false, 7), (false, 8), (false, 9), (false, 10), (false, 11), (false, 12), (false, 13), (false, 14), (false, 15), (false, 16), (false, 17), (false, 18), (false, 19), (false, 20), (false, 21), (false, 22), (false, 23), (false, 24), (false, 25)] (by kernel_rfl) ?_
                      refine wp_val (.sl 1 (List.map rB r4.1)) rfl rfl pv_move ?_
                      refine wp_val (.int .i64 (j : Int)) rfl rfl pv_move ?_
                      refine wp_val (.cp [(.bool a)] 0) rfl rfl (pv_ixa (ixa_nat ti39 ti4 rfl ha)) ?_
                      refine wp_val (.bool a) rfl rfl (pv_load (ld_cp ti4 rfl)) ?_
                      refine wp_val (.bool a) rfl rfl pv_move ?_
                      refine op_iteb (fun hb4 => ?_) (fun hb4 => ?_)
                      · refine wp_valg (tj := 85) (.sl 1 (List.map rB y)) rfl rfl (congrArg AV.bool hb4) rfl pv_move ?_
                        refine wp_valg (tj := 85) (.int .i64 (j : Int)) rfl rfl (congrArg AV.bool hb4) rfl pv_move ?_
                        refine op_idx fun a2 hz hx1 => ?_
                        refine wp_valg (tj := 85) (.cp [(.bool a2)] 0) rfl rfl (congrArg AV.bool hb4) rfl (pv_ixa (ixa_sl ti39 ti4 rfl hz hx1)) ?_
                        refine wp_valg (tj := 85) (.bool a2) rfl rfl (congrArg AV.bool hb4) rfl (pv_load (ld_cp ti4 rfl)) ?_
                        refine wp_valg (tj := 85) (.bool (!a2)) rfl rfl (congrArg AV.bool hb4) rfl (pv_un rfl) ?_
                        refine wp_val (.bool (!a2)) rfl rfl (pv_pick (t := true) (congrArg AV.bool hb4) rfl) ?_
                        refine wp_val (.bool (!a2)) rfl rfl pv_move ?_
                        refine op_iteb (fun hb5 => ?_) (fun hb5 => ?_)
                        · refine wp_not (tj := 92) (b := true) rfl rfl (congrArg AV.bool hb5) rfl rfl ?_
                          refine wp_not (tj := 92) (b := true) rfl rfl (congrArg AV.bool hb5) rfl rfl ?_
                          refine wp_not (tj := 92) (b := true) rfl rfl (congrArg AV.bool hb5) rfl rfl ?_
                          refine wp_notu (tj := 95) rfl rfl rfl rfl ?_
                          refine wp_notu (tj := 95) rfl rfl rfl rfl ?_
                          refine wp_notu (tj := 95) rfl rfl rfl rfl ?_
                          refine wp_notu (tj := 95) rfl rfl rfl rfl ?_
                          refine wp_notu (tj := 95) rfl rfl rfl rfl ?_
                          refine wp_notu (tj := 95) rfl rfl rfl rfl ?_
                          refine wp_notu (tj := 95) rfl rfl rfl rfl ?_
                          refine wp_notu (tj := 95) rfl rfl rfl rfl ?_
                          refine wp_notu (tj := 95) rfl rfl rfl rfl ?_
                          refine wp_not (tj := 92) (b := true) rfl rfl (congrArg AV.bool hb5) rfl rfl ?_
                          refine wp_val (.bool true) rfl rfl (pv_pick (t := true) (congrArg AV.bool hb5) rfl) ?_
                          refine wp_nil ?_
                          refine wr_is [(8, (.ptr (ix ids 0) g 0 0)), (11, (.sl 1 (List.map rB r4.1))), (13, (.sl 1 (List.map rB y))), (63, (.int .i64 (r4.1.length : Int))), (64, (.int .i64 (j : Int))), (106, (.bool true))] (.cons rfl (.cons rfl (.cons rfl (.cons rfl (.cons rfl (.cons rfl .nil)))))) ?_
                          refine hJ2 true _ _ ?_
                          exact ⟨rfl, rfl⟩
                        · refine wp_valg (tj := 92) (.bool sees) rfl rfl (congrArg AV.bool hb5) rfl pv_move ?_
                          refine wp_valg (tj := 92) (.bool (!sees)) rfl rfl (congrArg AV.bool hb5) rfl (pv_un rfl) ?_
                          refine wp_valg (tj := 92) (.bool (!sees)) rfl rfl (congrArg AV.bool hb5) rfl pv_move ?_
                          refine op_iteb (fun hb6 => ?_) (fun hb6 => ?_)
                          · refine wp_valg (tj := 95) (.sl 1 (List.map rB r4.1)) rfl rfl (congrArg AV.bool hb6) rfl pv_move ?_
                            refine wp_valg (tj := 95) (.int .i64 (j : Int)) rfl rfl (congrArg AV.bool hb6) rfl pv_move ?_
                            refine wp_valg (tj := 95) (.cp [(.bool a)] 0) rfl rfl (congrArg AV.bool hb6) rfl (pv_ixa (ixa_nat ti39 ti4 rfl ha)) ?_
                            refine wp_valg (tj := 95) (.bool a) rfl rfl (congrArg AV.bool hb6) rfl (pv_load (ld_cp ti4 rfl)) ?_
                            refine wp_valg (tj := 95) (.sl 1 (List.map rB y)) rfl rfl (congrArg AV.bool hb6) rfl pv_move ?_
                            refine wp_valg (tj := 95) (.int .i64 (j : Int)) rfl rfl (congrArg AV.bool hb6) rfl pv_move ?_
                            refine wp_valg (tj := 95) (.cp [(.bool a2)] 0) rfl rfl (congrArg AV.bool hb6) rfl (pv_ixa (ixa_sl ti39 ti4 rfl hz hx1)) ?_
                            refine wp_valg (tj := 95) (.bool a2) rfl rfl (congrArg AV.bool hb6) rfl (pv_load (ld_cp ti4 rfl)) ?_
                            refine wp_valg (tj := 95) (.bool (!(a == a2))) rfl rfl (congrArg AV.bool hb6) rfl (pv_bin rfl rfl (bin_bne ti4)) ?_
                            refine wp_valg (tj := 92) (.bool (!(a == a2))) rfl rfl (congrArg AV.bool hb5) rfl (pv_pick (t := true) (congrArg AV.bool hb6) rfl) ?_
                            refine wp_val (.bool (!(a == a2))) rfl rfl (pv_pick (t := false) (congrArg AV.bool hb5) rfl) ?_
                            refine wp_nil ?_
                            refine wr_is [(8, (.ptr (ix ids 0) g 0 0)), (11, (.sl 1 (List.map rB r4.1))), (13, (.sl 1 (List.map rB y))), (63, (.int .i64 (r4.1.length : Int))), (64, (.int .i64 (j : Int))), (106, (.bool (!(a == a2))))] (.cons rfl (.cons rfl (.cons rfl (.cons rfl (.cons rfl (.cons rfl .nil)))))) ?_
                            refine hJ2 (!(a == a2)) _ _ ?_
                            exact ⟨rfl, rfl⟩
                          · refine wp_not (tj := 95) (b := false) rfl rfl (congrArg AV.bool hb6) rfl rfl ?_
                            refine wp_not (tj := 95) (b := false) rfl rfl (congrArg AV.bool hb6) rfl rfl ?_
                            refine wp_not (tj := 95) (b := false) rfl rfl (congrArg AV.bool hb6) rfl rfl ?_
                            refine wp_not (tj := 95) (b := false) rfl rfl (congrArg AV.bool hb6) rfl rfl ?_
                            refine wp_not (tj := 95) (b := false) rfl rfl (congrArg AV.bool hb6) rfl rfl ?_
                            refine wp_not (tj := 95) (b := false) rfl rfl (congrArg AV.bool hb6) rfl rfl ?_
                            refine wp_not (tj := 95) (b := false) rfl rfl (congrArg AV.bool hb6) rfl rfl ?_
                            refine wp_not (tj := 95) (b := false) rfl rfl (congrArg AV.bool hb6) rfl rfl ?_
                            refine wp_not (tj := 95) (b := false) rfl rfl (congrArg AV.bool hb6) rfl rfl ?_
                            refine wp_valg (tj := 92) (.bool false) rfl rfl (congrArg AV.bool hb5) rfl (pv_pick (t := false) (congrArg AV.bool hb6) rfl) ?_
                            refine wp_val (.bool false) rfl rfl (pv_pick (t := false) (congrArg AV.bool hb5) rfl) ?_
                            refine wp_nil ?_
                            refine wr_is [(8, (.ptr (ix ids 0) g 0 0)), (11, (.sl 1 (List.map rB r4.1))), (13, (.sl 1 (List.map rB y))), (63, (.int .i64 (r4.1.length : Int))), (64, (.int .i64 (j : Int))), (106, (.bool false))] (.cons rfl (.cons rfl (.cons rfl (.cons rfl (.cons rfl (.cons rfl .nil)))))) ?_
                            refine hJ2 false _ _ ?_
                            exact ⟨rfl, rfl⟩
                      · refine wp_not (tj := 85) (b := false) rfl rfl (congrArg AV.bool hb4) rfl rfl ?_
                        refine wp_not (tj := 85) (b := false) rfl rfl (congrArg AV.bool hb4) rfl rfl ?_
                        refine wp_not (tj := 85) (b := false) rfl rfl (congrArg AV.bool hb4) rfl rfl ?_
                        refine wp_not (tj := 85) (b := false) rfl rfl (congrArg AV.bool hb4) rfl rfl ?_
                        refine wp_not (tj := 85) (b := false) rfl rfl (congrArg AV.bool hb4) rfl rfl ?_
                        refine wp_val (.bool false) rfl rfl (pv_pick (t := false) (congrArg AV.bool hb4) rfl) ?_
                        refine wp_val (.bool false) rfl rfl pv_move ?_
                        refine wp_valg (tj := 92) (.bool sees) rfl rfl rfl rfl pv_move ?_
                        refine wp_valg (tj := 92) (.bool (!sees)) rfl rfl rfl rfl (pv_un rfl) ?_
                        refine wp_valg (tj := 92) (.bool (!sees)) rfl rfl rfl rfl pv_move ?_
                        refine op_iteb (fun hb7 => ?_) (fun hb7 => ?_)
                        · refine wp_valg (tj := 95) (.sl 1 (List.map rB r4.1)) rfl rfl (congrArg AV.bool hb7) rfl pv_move ?_
                          refine wp_valg (tj := 95) (.int .i64 (j : Int)) rfl rfl (congrArg AV.bool hb7) rfl pv_move ?_
                          refine wp_valg (tj := 95) (.cp [(.bool a)] 0) rfl rfl (congrArg AV.bool hb7) rfl (pv_ixa (ixa_nat ti39 ti4 rfl ha)) ?_
                          refine wp_valg (tj := 95) (.bool a) rfl rfl (congrArg AV.bool hb7) rfl (pv_load (ld_cp ti4 rfl)) ?_
                          refine wp_valg (tj := 95) (.sl 1 (List.map rB y)) rfl rfl (congrArg AV.bool hb7) rfl pv_move ?_
                          refine wp_valg (tj := 95) (.int .i64 (j : Int)) rfl rfl (congrArg AV.bool hb7) rfl pv_move ?_
                          refine op_idx fun a3 hz1 hx2 => ?_
                          refine wp_valg (tj := 95) (.cp [(.bool a3)] 0) rfl rfl (congrArg AV.bool hb7) rfl (pv_ixa (ixa_sl ti39 ti4 rfl hz1 hx2)) ?_
                          refine wp_valg (tj := 95) (.bool a3) rfl rfl (congrArg AV.bool hb7) rfl (pv_load (ld_cp ti4 rfl)) ?_
                          refine wp_valg (tj := 95) (.bool (!(a == a3))) rfl rfl (congrArg AV.bool hb7) rfl (pv_bin rfl rfl (bin_bne ti4)) ?_
                          refine wp_valg (tj := 92) (.bool (!(a == a3))) rfl rfl rfl rfl (pv_pick (t := true) (congrArg AV.bool hb7) rfl) ?_
                          refine wp_val (.bool (!(a == a3))) rfl rfl (pv_pick (t := false) rfl rfl) ?_
                          refine wp_nil ?_
                          refine wr_is [(8, (.ptr (ix ids 0) g 0 0)), (11, (.sl 1 (List.map rB r4.1))), (13, (.sl 1 (List.map rB y))), (63, (.int .i64 (r4.1.length : Int))), (64, (.int .i64 (j : Int))), (106, (.bool (!(a == a3))))] (.cons rfl (.cons rfl (.cons rfl (.cons rfl (.cons rfl (.cons rfl .nil)))))) ?_
                          refine hJ2 (!(a == a3)) _ _ ?_
                          exact ⟨rfl, rfl⟩
                        · refine wp_not (tj := 95) (b := false) rfl rfl (congrArg AV.bool hb7) rfl rfl ?_
                          refine wp_not (tj := 95) (b := false) rfl rfl (congrArg AV.bool hb7) rfl rfl ?_
                          refine wp_not (tj := 95) (b := false) rfl rfl (congrArg AV.bool hb7) rfl rfl ?_
                          refine wp_not (tj := 95) (b := false) rfl rfl (congrArg AV.bool hb7) rfl rfl ?_
                          refine wp_not (tj := 95) (b := false) rfl rfl (congrArg AV.bool hb7) rfl rfl ?_
                          refine wp_not (tj := 95) (b := false) rfl rfl (congrArg AV.bool hb7) rfl rfl ?_
                          refine wp_not (tj := 95) (b := false) rfl rfl (congrArg AV.bool hb7) rfl rfl ?_
                          refine wp_not (tj := 95) (b := false) rfl rfl (congrArg AV.bool hb7) rfl rfl ?_
                          refine wp_not (tj := 95) (b := false) rfl rfl (congrArg AV.bool hb7) rfl rfl ?_
                          refine wp_valg (tj := 92) (.bool false) rfl rfl rfl rfl (pv_pick (t := false) (congrArg AV.bool hb7) rfl) ?_
                          refine wp_val (.bool false) rfl rfl (pv_pick (t := false) rfl rfl) ?_
                          refine wp_nil ?_
                          refine wr_is [(8, (.ptr (ix ids 0) g 0 0)), (11, (.sl 1 (List.map rB r4.1))), (13, (.sl 1 (List.map rB y))), (63, (.int .i64 (r4.1.length : Int))), (64, (.int .i64 (j : Int))), (106, (.bool false))] (.cons rfl (.cons rfl (.cons rfl (.cons rfl (.cons rfl (.cons rfl .nil)))))) ?_
                          refine hJ2 false _ _ ?_
                          exact ⟨rfl, rfl⟩
                · rintro _ fr h ⟨rfl, rfl⟩
                  refine wr_mod (alt_inl _ _ _) ?_
                  refine wr_seq ?_
                  refine wr_region ?_
                  refine wo_val (.bool (decide ((r4.1.length : Int) < (r4.1.length : Int)))) rfl (pv_bin rfl rfl rfl) ?_
                  refine wo_nil ?_
                  refine wr_seq ?_
                  refine wr_condF rfl (Int.lt_irrefl _) ?_
                  refine wr_exit rfl ?_
                  refine wr_seq ?_
                  refine wr_region ?_
                  refine wo_val (.bool true) rfl pv_assign ?_
                  refine wo_nil ?_
                  exact wr_ret (a := true) (vs := [(.bool true)]) Try.func5 hI rfl (.same _)
          · refine wo_not (tj := 53) (b := true) rfl (congrArg AV.bool hb1) rfl rfl ?_
            refine wo_not (tj := 53) (b := true) rfl (congrArg AV.bool hb1) rfl rfl ?_
            refine wo_val (.bool true) rfl (pv_pick (t := true) (congrArg AV.bool hb1) rfl) ?_
            exact wo_is [(8, (.ptr (ix ids 0) g 0 0)), (11, (.sl 1 (List.map rB r4.1))), (13, (.sl 1 (List.map rB y))), (56, (.bool ((r4.2 != 0) || (f != 0))))] (.cons rfl (.cons rfl (.cons rfl (.cons (or_t hb1) .nil)))) hJ
          · refine wo_valg (tj := 53) (.int .i64 f) rfl (congrArg AV.bool hb1) rfl pv_move ?_
            refine wo_valg (tj := 53) (.bool (f != 0)) rfl (congrArg AV.bool hb1) rfl (pv_bin rfl rfl rfl) ?_
            refine wo_val (.bool (f != 0)) rfl (pv_pick (t := false) (congrArg AV.bool hb1) rfl) ?_
            exact wo_is [(8, (.ptr (ix ids 0) g 0 0)), (11, (.sl 1 (List.map rB r4.1))), (13, (.sl 1 (List.map rB y))), (56, (.bool ((r4.2 != 0) || (f != 0))))] (.cons rfl (.cons rfl (.cons rfl (.cons (or_f hb1) .nil)))) hJ
        · refine wr_drawT hmix (.node 5 3 (.leaf [[], [], [], [1, 2], [], [1, 2, 3, 4], [1, 2, 3, 4, 5], [], [], [0, 1, 2, 3, 4, 5, 6, 7, 8], [0, 1, 2, 3, 4, 5, 6, 7, 8, 9], [0, 1, 2, 3, 4, 5, 6, 7, 8, 9, 10], [0, 1, 2, 3, 4, 5, 6, 7, 8, 9, 10], [0, 1, 2, 3, 4, 5, 6, 7, 8, 9, 9, 10, 11, 11], [0, 1, 2, 3, 4, 5, 6, 7, 8, 9, 10, 11, 12, 12, 13, 13]] [(false, 0), (false, 2), (false, 4), (false, 7), (false, 8), (true, 1), (true, 3), (true, 5), (true, 6), (true, 9), (false, 10), (false, 11), (false, 12), (false, 13), (false, 14)]) (.node 5 1 (.leaf [[], [], [], [1, 2, 4, 5], [], [1, 4], [1, 2, 3, 4, 5], [], [], [0, 1, 2, 3, 4, 5, 6, 7, 8], [0, 1, 2, 3, 4, 5, 6, 7, 8, 9], [0, 1, 2, 3, 4, 5, 6, 7, 8, 9, 10], [0, 1, 2, 3, 4, 5, 6, 7, 8, 9, 10], [0, 1, 2, 3, 4, 5, 6, 7, 8, 9, 9, 10, 11, 11], [0, 1, 2, 3, 4, 5, 6, 7, 8, 9, 10, 11, 12, 12, 13, 13]] [(false, 0), (false, 2), (false, 4), (false, 7), (false, 8), (true, 1), (true, 5), (true, 3), (true, 6), (true, 9), (false, 10), (false, 11), (false, 12), (false, 13), (false, 14)]) (.leaf [[], [4, 5], [], [1, 2, 4, 5], [], [4], [1, 2, 3, 4, 5], [], [], [0, 1, 2, 3, 4, 5, 6, 7, 8], [0, 1, 2, 3, 4, 5, 6, 7, 8, 9], [0, 1, 2, 3, 4, 5, 6, 7, 8, 9, 10], [0, 1, 2, 3, 4, 5, 6, 7, 8, 9, 10], [0, 1, 2, 3, 4, 5, 6, 7, 8, 9, 9, 10, 11, 11], [0, 1, 2, 3, 4, 5, 6, 7, 8, 9, 10, 11, 12, 12, 13, 13]] [(false, 0), (false, 2), (false, 4), (false, 7), (false, 8), (true, 5), (true, 1), (true, 3), (true, 6), (true, 9), (false, 10), (false, 11), (false, 12), (false, 13), (false, 14)]))) (by kernel_rfl) ?_
          refine dt_node ?_ ?_
          · refine dt_leaf ?_
            refine wp_val (.int .i64 volumes) rfl rfl pv_move ?_
            refine wp_val (.sl 3 (List.map rStation s)) rfl rfl pv_move ?_
            refine wp_val (.agg (rStation more)) rfl rfl (pv_load (ld_ptr hI rfl rfl rfl ti38 rfl)) ?_
            refine wp_val (.sl 3 (List.map rStatus l)) rfl rfl pv_move ?_
            refine wp_val (.int .i64 minute) rfl rfl pv_move ?_
            refine wp_op rfl rfl (fun _ _ => rfl) (fun K hK => eff_bs0 ti35 ti38 (hK _ _ (pend_no rfl pv_move (pend_no rfl pv_move (pend_no rfl (pv_load (ld_ptr hI rfl rfl rfl ti38 rfl)) (pend_no rfl pv_move (pend_no rfl pv_move pend_nil))))) ?_)) 
            clear hK K
            refine op_need fun hl6 => ?_
            refine wp_op rfl rfl (fun _ _ => rfl) (fun K hK => eff_append (e := rStation) (L := ([] : List Station)) (L2 := s) (v := .emp) (g := 0) (st := 3) (j := 2) hI rfl rfl rfl .nil rfl (src_sl rfl) ti35 ti35 rfl ti38 rfl rfl rfl (by simpa using hl6) fun v6 g7 vH6 => hK _ _ (pend_no rfl pv_move (pend_no rfl pv_move (pend_no rfl (pv_load (ld_ptr hI rfl rfl rfl ti38 rfl)) (pend_yes rfl (pend_no rfl pv_move pend_nil))))) ?_) 
            clear hK K
            refine wp_op rfl rfl (fun _ _ => rfl) (fun K hK => eff_bsC (e := rStation) (L := [more]) (st := 3) (rows := [[(.sl 1 (List.map (rI .i64) more.Volumes)), (.int .i64 more.Shift), (.int .i64 more.Faults)]]) ti35 ti38 rfl rfl rfl rfl rfl (.cons (RowSim.refl _) .nil) (fun x => ok_Station x) rfl rfl (hK _ _ (pend_no rfl pv_move (pend_no rfl pv_move (pend_yes rfl (pend_yes rfl (pend_no rfl pv_move pend_nil))))) ?_)) 
            clear hK K
            refine op_need fun hl7 => ?_
            refine wp_op rfl rfl (fun _ _ => rfl) (fun K hK => eff_append (e := rStation) (L := s) (L2 := [more]) (v := v6) (g := g7) (st := 3) (j := 2) hI rfl rfl rfl vH6 rfl (src_sl rfl) ti35 ti35 rfl ti38 rfl rfl rfl hl7 fun v7 g8 vH7 => hK _ _ (pend_no rfl pv_move (pend_no rfl pv_move (pend_yes rfl (pend_yes rfl (pend_no rfl pv_move pend_nil))))) ?_) 
            clear hK K
            refine wp_callG [2] hI rfl rfl (cg_radar_Seen_2 volumes l minute (s ++ [more]) _ (ix ids 2) v7 g8 vH7 (by exact hI.sub' rfl rfl)) rfl rfl rfl rfl rfl rfl rfl (fun v _ _ _ => wu_pan Try.func5 hI) ?_
            rintro r5 _ _ _ ⟨v8, g9, vH8, rfl, rfl⟩
            refine wp_putH [2] [some (.rows g 3 [(rStation more)]), none, ownO v8 g9 3 (List.map rStation r5.2.2)] hI rfl rfl rfl rfl ⟨(pend_yes rfl (pend_yes rfl (pend_yes rfl (pend_yes rfl (pend_yes rfl pend_nil))))), ?_⟩
            refine wp_put1 ?_
            refine wp_val (.tup [(.sl 1 (List.map rB r5.2.1)), (.int .i64 r5.1)]) rfl rfl pv_move ?_
            refine wp_val (.sl 1 (List.map rB r5.2.1)) rfl rfl (pv_ext rfl) ?_
            refine wp_val (.int .i64 r5.1) rfl rfl (pv_ext rfl) ?_
            refine wp_val (.sl 1 (List.map rB r5.2.1)) rfl rfl pv_assign ?_
            refine wp_val (.int .i64 r5.1) rfl rfl pv_assign ?_
            refine wp_nil ?_
            refine wr_hp [(some (.rows g 3 [(rStation more)])), none, (ownO v8 g9 3 (List.map rStation r5.2.2))] rfl ?_
            refine wr_drop [(some (.rows g 3 [(rStation more)])), none, none] hI rfl (.keep (.keep (.drop .nil))) ?_
            refine wr_is [(8, (.ptr (ix ids 0) g 0 0)), (11, (.sl 1 (List.map rB r4.1))), (12, (.int .i64 r4.2)), (13, (.sl 1 (List.map rB r5.2.1))), (14, (.int .i64 r5.1))] (.cons rfl (.cons rfl (.cons rfl (.cons rfl (.cons rfl .nil))))) ?_
            refine hJ3 (r5.2.1, r5.1) _ _ ?_
            exact ⟨rfl, rfl⟩
          · refine dt_node ?_ ?_
            · refine dt_leaf ?_
              refine wp_val (.int .i64 volumes) rfl rfl pv_move ?_
              refine wp_val (.sl 3 (List.map rStation s)) rfl rfl pv_move ?_
              refine wp_val (.agg (rStation more)) rfl rfl (pv_load (ld_ptr hI rfl rfl rfl ti38 rfl)) ?_
              refine wp_val (.sl 3 (List.map rStatus l)) rfl rfl pv_move ?_
              refine wp_val (.int .i64 minute) rfl rfl pv_move ?_
              refine wp_op rfl rfl (fun _ _ => rfl) (fun K hK => eff_bs0 ti35 ti38 (hK _ _ (pend_no rfl pv_move (pend_no rfl pv_move (pend_no rfl (pv_load (ld_ptr hI rfl rfl rfl ti38 rfl)) (pend_no rfl pv_move (pend_no rfl pv_move pend_nil))))) ?_)) 
              clear hK K
              refine wp_op rfl rfl (fun _ _ => rfl) (fun K hK => eff_bsC (e := rStation) (L := [more]) (st := 3) (rows := [[(.sl 1 (List.map (rI .i64) more.Volumes)), (.int .i64 more.Shift), (.int .i64 more.Faults)]]) ti35 ti38 rfl rfl rfl rfl rfl (.cons (RowSim.refl _) .nil) (fun x => ok_Station x) rfl rfl (hK _ _ (pend_no rfl pv_move (pend_no rfl pv_move (pend_yes rfl (pend_no rfl pv_move (pend_no rfl pv_move pend_nil))))) ?_)) 
              clear hK K
              refine op_need fun hl8 => ?_
              refine wp_op rfl rfl (fun _ _ => rfl) (fun K hK => eff_append (e := rStation) (L := ([] : List Station)) (L2 := s) (v := .emp) (g := 0) (st := 3) (j := 2) hI rfl rfl rfl .nil rfl (src_sl rfl) ti35 ti35 rfl ti38 rfl rfl rfl (by simpa using hl8) fun v9 g10 vH9 => hK _ _ (pend_no rfl pv_move (pend_no rfl pv_move (pend_yes rfl (pend_yes rfl (pend_no rfl pv_move pend_nil))))) ?_) 
              clear hK K
              refine op_need fun hl9 => ?_
              refine wp_op rfl rfl (fun _ _ => rfl) (fun K hK => eff_append (e := rStation) (L := s) (L2 := [more]) (v := v9) (g := g10) (st := 3) (j := 2) hI rfl rfl rfl vH9 rfl (src_sl rfl) ti35 ti35 rfl ti38 rfl rfl rfl hl9 fun v10 g11 vH10 => hK _ _ (pend_no rfl pv_move (pend_no rfl pv_move (pend_yes rfl (pend_yes rfl (pend_no rfl pv_move pend_nil))))) ?_) 
              clear hK K
              refine wp_callG [2] hI rfl rfl (cg_radar_Seen_2 volumes l minute (s ++ [more]) _ (ix ids 2) v10 g11 vH10 (by exact hI.sub' rfl rfl)) rfl rfl rfl rfl rfl rfl rfl (fun v _ _ _ => wu_pan Try.func5 hI) ?_
              rintro r6 _ _ _ ⟨v11, g12, vH11, rfl, rfl⟩
              refine wp_putH [2] [some (.rows g 3 [(rStation more)]), none, ownO v11 g12 3 (List.map rStation r6.2.2)] hI rfl rfl rfl rfl ⟨(pend_yes rfl (pend_yes rfl (pend_yes rfl (pend_yes rfl (pend_yes rfl pend_nil))))), ?_⟩
              refine wp_put1 ?_
              refine wp_val (.tup [(.sl 1 (List.map rB r6.2.1)), (.int .i64 r6.1)]) rfl rfl pv_move ?_
              refine wp_val (.sl 1 (List.map rB r6.2.1)) rfl rfl (pv_ext rfl) ?_
              refine wp_val (.int .i64 r6.1) rfl rfl (pv_ext rfl) ?_
              refine wp_val (.sl 1 (List.map rB r6.2.1)) rfl rfl pv_assign ?_
              refine wp_val (.int .i64 r6.1) rfl rfl pv_assign ?_
              refine wp_nil ?_
              refine wr_hp [(some (.rows g 3 [(rStation more)])), none, (ownO v11 g12 3 (List.map rStation r6.2.2))] rfl ?_
              refine wr_drop [(some (.rows g 3 [(rStation more)])), none, none] hI rfl (.keep (.keep (.drop .nil))) ?_
              refine wr_is [(8, (.ptr (ix ids 0) g 0 0)), (11, (.sl 1 (List.map rB r4.1))), (12, (.int .i64 r4.2)), (13, (.sl 1 (List.map rB r6.2.1))), (14, (.int .i64 r6.1))] (.cons rfl (.cons rfl (.cons rfl (.cons rfl (.cons rfl .nil))))) ?_
              refine hJ3 (r6.2.1, r6.1) _ _ ?_
              exact ⟨rfl, rfl⟩
            · refine dt_leaf ?_
              refine wp_val (.int .i64 volumes) rfl rfl pv_move ?_
              refine wp_val (.sl 3 (List.map rStation s)) rfl rfl pv_move ?_
              refine wp_val (.agg (rStation more)) rfl rfl (pv_load (ld_ptr hI rfl rfl rfl ti38 rfl)) ?_
              refine wp_val (.sl 3 (List.map rStatus l)) rfl rfl pv_move ?_
              refine wp_val (.int .i64 minute) rfl rfl pv_move ?_
              refine wp_op rfl rfl (fun _ _ => rfl) (fun K hK => eff_bsC (e := rStation) (L := [more]) (st := 3) (rows := [[(.sl 1 (List.map (rI .i64) more.Volumes)), (.int .i64 more.Shift), (.int .i64 more.Faults)]]) ti35 ti38 rfl rfl rfl rfl rfl (.cons (RowSim.refl _) .nil) (fun x => ok_Station x) rfl rfl (hK _ _ (pend_no rfl pv_move (pend_no rfl pv_move (pend_yes rfl (pend_no rfl pv_move (pend_no rfl pv_move pend_nil))))) ?_)) 
              clear hK K
              refine wp_op rfl rfl (fun _ _ => rfl) (fun K hK => eff_bs0 ti35 ti38 (hK _ _ (pend_no rfl pv_move (pend_no rfl pv_move (pend_yes rfl (pend_no rfl pv_move (pend_no rfl pv_move pend_nil))))) ?_)) 
              clear hK K
              refine op_need fun hl10 => ?_
              refine wp_op rfl rfl (fun _ _ => rfl) (fun K hK => eff_append (e := rStation) (L := ([] : List Station)) (L2 := s) (v := .emp) (g := 0) (st := 3) (j := 2) hI rfl rfl rfl .nil rfl (src_sl rfl) ti35 ti35 rfl ti38 rfl rfl rfl (by simpa using hl10) fun v12 g13 vH12 => hK _ _ (pend_no rfl pv_move (pend_no rfl pv_move (pend_yes rfl (pend_yes rfl (pend_no rfl pv_move pend_nil))))) ?_) 
              clear hK K
              refine op_need fun hl11 => ?_
              refine wp_op rfl rfl (fun _ _ => rfl) (fun K hK => eff_append (e := rStation) (L := s) (L2 := [more]) (v := v12) (g := g13) (st := 3) (j := 2) hI rfl rfl rfl vH12 rfl (src_sl rfl) ti35 ti35 rfl ti38 rfl rfl rfl hl11 fun v13 g14 vH13 => hK _ _ (pend_no rfl pv_move (pend_no rfl pv_move (pend_yes rfl (pend_yes rfl (pend_no rfl pv_move pend_nil))))) ?_) 
              clear hK K
              refine wp_callG [2] hI rfl rfl (cg_radar_Seen_2 volumes l minute (s ++ [more]) _ (ix ids 2) v13 g14 vH13 (by exact hI.sub' rfl rfl)) rfl rfl rfl rfl rfl rfl rfl (fun v _ _ _ => wu_pan Try.func5 hI) ?_
              rintro r7 _ _ _ ⟨v14, g15, vH14, rfl, rfl⟩
              refine wp_putH [2] [some (.rows g 3 [(rStation more)]), none, ownO v14 g15 3 (List.map rStation r7.2.2)] hI rfl rfl rfl rfl ⟨(pend_yes rfl (pend_yes rfl (pend_yes rfl (pend_yes rfl (pend_yes rfl pend_nil))))), ?_⟩
              refine wp_put1 ?_
              refine wp_val (.tup [(.sl 1 (List.map rB r7.2.1)), (.int .i64 r7.1)]) rfl rfl pv_move ?_
              refine wp_val (.sl 1 (List.map rB r7.2.1)) rfl rfl (pv_ext rfl) ?_
              refine wp_val (.int .i64 r7.1) rfl rfl (pv_ext rfl) ?_
              refine wp_val (.sl 1 (List.map rB r7.2.1)) rfl rfl pv_assign ?_
              refine wp_val (.int .i64 r7.1) rfl rfl pv_assign ?_
              refine wp_nil ?_
              refine wr_hp [(some (.rows g 3 [(rStation more)])), none, (ownO v14 g15 3 (List.map rStation r7.2.2))] rfl ?_
              refine wr_drop [(some (.rows g 3 [(rStation more)])), none, none] hI rfl (.keep (.keep (.drop .nil))) ?_
              refine wr_is [(8, (.ptr (ix ids 0) g 0 0)), (11, (.sl 1 (List.map rB r4.1))), (12, (.int .i64 r4.2)), (13, (.sl 1 (List.map rB r7.2.1))), (14, (.int .i64 r7.1))] (.cons rfl (.cons rfl (.cons rfl (.cons rfl (.cons rfl .nil))))) ?_
              refine hJ3 (r7.2.1, r7.1) _ _ ?_
              exact ⟨rfl, rfl⟩
    · refine wr_drawT hmix (.node 4 2 (.leaf [[], [], [0, 1], [], [0, 1, 2, 3], [0, 1, 2, 3, 4], [], [0, 1, 2, 3, 4, 5, 6], [0, 1, 2, 3, 4, 5, 6, 7]] [(false, 1), (false, 3), (false, 6), (true, 0), (true, 2), (true, 4), (true, 5), (true, 7), (false, 8)]) (.node 4 0 (.leaf [[], [], [0, 1, 3, 4], [], [0, 3], [0, 1, 2, 3, 4], [], [0, 1, 2, 3, 4, 5, 6], [0, 1, 2, 3, 4, 5, 6, 7]] [(false, 1), (false, 3), (false, 6), (true, 0), (true, 4), (true, 2), (true, 5), (true, 7), (false, 8)]) (.leaf [[3, 4], [], [0, 1, 3, 4], [], [3], [0, 1, 2, 3, 4], [], [0, 1, 2, 3, 4, 5, 6], [0, 1, 2, 3, 4, 5, 6, 7]] [(false, 1), (false, 3), (false, 6), (true, 4), (true, 0), (true, 2), (true, 5), (true, 7), (false, 8)]))) (by kernel_rfl) ?_
      refine dt_node ?_ ?_
      · refine dt_leaf ?_
        refine wp_val (.sl 3 (List.map rStation s)) rfl rfl pv_move ?_
        refine wp_val (.agg (rStation more)) rfl rfl (pv_load (ld_ptr hI rfl rfl rfl ti38 rfl)) ?_
        refine wp_val (.sl 3 (List.map rStatus l)) rfl rfl pv_move ?_
        refine wp_op rfl rfl (fun _ _ => rfl) (fun K hK => eff_bs0 ti35 ti38 (hK _ _ (pend_no rfl pv_move (pend_no rfl (pv_load (ld_ptr hI rfl rfl rfl ti38 rfl)) (pend_no rfl pv_move pend_nil))) ?_)) 
        clear hK K
        refine op_need fun hl => ?_
        refine wp_op rfl rfl (fun _ _ => rfl) (fun K hK => eff_append (e := rStation) (L := ([] : List Station)) (L2 := s) (v := .emp) (g := 0) (st := 3) (j := 1) hI rfl rfl rfl .nil rfl (src_sl rfl) ti35 ti35 rfl ti38 rfl rfl rfl (by simpa using hl) fun v g1 vH => hK _ _ (pend_no rfl pv_move (pend_no rfl (pv_load (ld_ptr hI rfl rfl rfl ti38 rfl)) (pend_yes rfl pend_nil))) ?_) 
        clear hK K
        refine wp_op rfl rfl (fun _ _ => rfl) (fun K hK => eff_bsC (e := rStation) (L := [more]) (st := 3) (rows := [[(.sl 1 (List.map (rI .i64) more.Volumes)), (.int .i64 more.Shift), (.int .i64 more.Faults)]]) ti35 ti38 rfl rfl rfl rfl rfl (.cons (RowSim.refl _) .nil) (fun x => ok_Station x) rfl rfl (hK _ _ (pend_no rfl pv_move (pend_yes rfl (pend_yes rfl pend_nil))) ?_)) 
        clear hK K
        refine op_need fun hl1 => ?_
        refine wp_op rfl rfl (fun _ _ => rfl) (fun K hK => eff_append (e := rStation) (L := s) (L2 := [more]) (v := v) (g := g1) (st := 3) (j := 1) hI rfl rfl rfl vH rfl (src_sl rfl) ti35 ti35 rfl ti38 rfl rfl rfl hl1 fun v1 g2 vH1 => hK _ _ (pend_no rfl pv_move (pend_yes rfl (pend_yes rfl pend_nil))) ?_) 
        clear hK K
        refine wp_call [v1, (.sl 3 (List.map rStatus l))] rfl rfl rfl rfl rfl (CP.lend (cp_ref26_Few (s ++ [more]) l) (LF.lfz (.cons (own_fz vH1 (hI.at rfl rfl) rfl (fun x => ok_Station x)) (.cons (.same _) .nil))) (fun _ _ => (.bool _))) (fun v _ _ _ => wu_pan Try.func5 hI) (pend_yes rfl (pend_yes rfl (pend_yes rfl pend_nil))) fun r1 _ => ?_
        refine wp_val (.bool (!r1)) rfl rfl (pv_un rfl) ?_
        refine wp_nil ?_
        refine wr_hp [(some (.rows g 3 [(rStation more)])), (ownO v1 g2 3 (List.map rStation (s ++ [more]))), none] rfl ?_
        refine wr_drop [(some (.rows g 3 [(rStation more)])), none, none] hI rfl (.keep (.drop (.keep .nil))) ?_
        refine wr_is [(0, (.int .i64 volumes)), (1, (.sl 3 (List.map rStation s))), (2, (.sl 3 (List.map rStatus l))), (4, (.int .i64 minute)), (8, (.ptr (ix ids 0) g 0 0)), (29, (.bool (!r1)))] (.cons rfl (.cons rfl (.cons rfl (.cons rfl (.cons rfl (.cons rfl .nil)))))) ?_
        refine hJ4 (!r1) _ _ ?_
        exact ⟨rfl, rfl⟩
      · refine dt_node ?_ ?_
        · refine dt_leaf ?_
          refine wp_val (.sl 3 (List.map rStation s)) rfl rfl pv_move ?_
          refine wp_val (.agg (rStation more)) rfl rfl (pv_load (ld_ptr hI rfl rfl rfl ti38 rfl)) ?_
          refine wp_val (.sl 3 (List.map rStatus l)) rfl rfl pv_move ?_
          refine wp_op rfl rfl (fun _ _ => rfl) (fun K hK => eff_bs0 ti35 ti38 (hK _ _ (pend_no rfl pv_move (pend_no rfl (pv_load (ld_ptr hI rfl rfl rfl ti38 rfl)) (pend_no rfl pv_move pend_nil))) ?_)) 
          clear hK K
          refine wp_op rfl rfl (fun _ _ => rfl) (fun K hK => eff_bsC (e := rStation) (L := [more]) (st := 3) (rows := [[(.sl 1 (List.map (rI .i64) more.Volumes)), (.int .i64 more.Shift), (.int .i64 more.Faults)]]) ti35 ti38 rfl rfl rfl rfl rfl (.cons (RowSim.refl _) .nil) (fun x => ok_Station x) rfl rfl (hK _ _ (pend_no rfl pv_move (pend_yes rfl (pend_no rfl pv_move pend_nil))) ?_)) 
          clear hK K
          refine op_need fun hl2 => ?_
          refine wp_op rfl rfl (fun _ _ => rfl) (fun K hK => eff_append (e := rStation) (L := ([] : List Station)) (L2 := s) (v := .emp) (g := 0) (st := 3) (j := 1) hI rfl rfl rfl .nil rfl (src_sl rfl) ti35 ti35 rfl ti38 rfl rfl rfl (by simpa using hl2) fun v2 g3 vH2 => hK _ _ (pend_no rfl pv_move (pend_yes rfl (pend_yes rfl pend_nil))) ?_) 
          clear hK K
          refine op_need fun hl3 => ?_
          refine wp_op rfl rfl (fun _ _ => rfl) (fun K hK => eff_append (e := rStation) (L := s) (L2 := [more]) (v := v2) (g := g3) (st := 3) (j := 1) hI rfl rfl rfl vH2 rfl (src_sl rfl) ti35 ti35 rfl ti38 rfl rfl rfl hl3 fun v3 g4 vH3 => hK _ _ (pend_no rfl pv_move (pend_yes rfl (pend_yes rfl pend_nil))) ?_) 
          clear hK K
          refine wp_call [v3, (.sl 3 (List.map rStatus l))] rfl rfl rfl rfl rfl (CP.lend (cp_ref26_Few (s ++ [more]) l) (LF.lfz (.cons (own_fz vH3 (hI.at rfl rfl) rfl (fun x => ok_Station x)) (.cons (.same _) .nil))) (fun _ _ => (.bool _))) (fun v _ _ _ => wu_pan Try.func5 hI) (pend_yes rfl (pend_yes rfl (pend_yes rfl pend_nil))) fun r2 _ => ?_
          refine wp_val (.bool (!r2)) rfl rfl (pv_un rfl) ?_
          refine wp_nil ?_
          refine wr_hp [(some (.rows g 3 [(rStation more)])), (ownO v3 g4 3 (List.map rStation (s ++ [more]))), none] rfl ?_
          refine wr_drop [(some (.rows g 3 [(rStation more)])), none, none] hI rfl (.keep (.drop (.keep .nil))) ?_
          refine wr_is [(0, (.int .i64 volumes)), (1, (.sl 3 (List.map rStation s))), (2, (.sl 3 (List.map rStatus l))), (4, (.int .i64 minute)), (8, (.ptr (ix ids 0) g 0 0)), (29, (.bool (!r2)))] (.cons rfl (.cons rfl (.cons rfl (.cons rfl (.cons rfl (.cons rfl .nil)))))) ?_
          refine hJ4 (!r2) _ _ ?_
          exact ⟨rfl, rfl⟩
        · refine dt_leaf ?_
          refine wp_val (.sl 3 (List.map rStation s)) rfl rfl pv_move ?_
          refine wp_val (.agg (rStation more)) rfl rfl (pv_load (ld_ptr hI rfl rfl rfl ti38 rfl)) ?_
          refine wp_val (.sl 3 (List.map rStatus l)) rfl rfl pv_move ?_
          refine wp_op rfl rfl (fun _ _ => rfl) (fun K hK => eff_bsC (e := rStation) (L := [more]) (st := 3) (rows := [[(.sl 1 (List.map (rI .i64) more.Volumes)), (.int .i64 more.Shift), (.int .i64 more.Faults)]]) ti35 ti38 rfl rfl rfl rfl rfl (.cons (RowSim.refl _) .nil) (fun x => ok_Station x) rfl rfl (hK _ _ (pend_no rfl pv_move (pend_yes rfl (pend_no rfl pv_move pend_nil))) ?_)) 
          clear hK K
          refine wp_op rfl rfl (fun _ _ => rfl) (fun K hK => eff_bs0 ti35 ti38 (hK _ _ (pend_no rfl pv_move (pend_yes rfl (pend_no rfl pv_move pend_nil))) ?_)) 
          clear hK K
          refine op_need fun hl4 => ?_
          refine wp_op rfl rfl (fun _ _ => rfl) (fun K hK => eff_append (e := rStation) (L := ([] : List Station)) (L2 := s) (v := .emp) (g := 0) (st := 3) (j := 1) hI rfl rfl rfl .nil rfl (src_sl rfl) ti35 ti35 rfl ti38 rfl rfl rfl (by simpa using hl4) fun v4 g5 vH4 => hK _ _ (pend_no rfl pv_move (pend_yes rfl (pend_yes rfl pend_nil))) ?_) 
          clear hK K
          refine op_need fun hl5 => ?_
          refine wp_op rfl rfl (fun _ _ => rfl) (fun K hK => eff_append (e := rStation) (L := s) (L2 := [more]) (v := v4) (g := g5) (st := 3) (j := 1) hI rfl rfl rfl vH4 rfl (src_sl rfl) ti35 ti35 rfl ti38 rfl rfl rfl hl5 fun v5 g6 vH5 => hK _ _ (pend_no rfl pv_move (pend_yes rfl (pend_yes rfl pend_nil))) ?_) 
          clear hK K
          refine wp_call [v5, (.sl 3 (List.map rStatus l))] rfl rfl rfl rfl rfl (CP.lend (cp_ref26_Few (s ++ [more]) l) (LF.lfz (.cons (own_fz vH5 (hI.at rfl rfl) rfl (fun x => ok_Station x)) (.cons (.same _) .nil))) (fun _ _ => (.bool _))) (fun v _ _ _ => wu_pan Try.func5 hI) (pend_yes rfl (pend_yes rfl (pend_yes rfl pend_nil))) fun r3 _ => ?_
          refine wp_val (.bool (!r3)) rfl rfl (pv_un rfl) ?_
          refine wp_nil ?_
          refine wr_hp [(some (.rows g 3 [(rStation more)])), (ownO v5 g6 3 (List.map rStation (s ++ [more]))), none] rfl ?_
          refine wr_drop [(some (.rows g 3 [(rStation more)])), none, none] hI rfl (.keep (.drop (.keep .nil))) ?_
          refine wr_is [(0, (.int .i64 volumes)), (1, (.sl 3 (List.map rStation s))), (2, (.sl 3 (List.map rStatus l))), (4, (.int .i64 minute)), (8, (.ptr (ix ids 0) g 0 0)), (29, (.bool (!r3)))] (.cons rfl (.cons rfl (.cons rfl (.cons rfl (.cons rfl (.cons rfl .nil)))))) ?_
          refine hJ4 (!r3) _ _ ?_
          exact ⟨rfl, rfl⟩
  · refine wr_seq ?_
    refine wr_region ?_
    refine wo_val (.bool false) rfl pv_assign ?_
    refine wo_nil ?_
    exact wr_ret (a := false) (vs := [(.bool false)]) Try.func5 hI rfl (.same _)

theorem cp_law26_RadarSays (volumes : Int) (s : (List Station)) (l : (List Status)) (one : Status) (minute : Int) : CP Try.prog 6 [(.int .i64 volumes), (.sl 3 (List.map rStation s)), (.sl 3 (List.map rStatus l)), (.agg (rStatus one)), (.int .i64 minute)] (law26_RadarSays volumes s l one minute) (fun (x : Bool) => (AV.bool x)) := by
  refine cp_intro (n := 102) 1 Try.func6 rfl (by decide) rfl rfl fun h0 ids hI => ?_
  refine wr_in (wr_mod (law26_RadarSays.eq_1 _ _ _ _ _) ?_)
  refine wr_seq ?_
  refine wr_region ?_
  refine wo_box (v := (.agg (rStatus one))) (j := 0) hI rfl rfl rfl rfl rfl rfl rfl fun g => ?_
  refine wo_val (.bool false) rfl pv_assign ?_
  refine wo_nil ?_
  refine wr_hp [(some (.rows g 3 [(rStatus one)]))] rfl ?_
  refine wr_seq ?_
  refine wr_seq ?_
  refine wr_region ?_
  refine of_call [] rfl rfl rfl rfl ((cp_law26_sane) _) (fun v _ => wu_pan Try.func6 hI) fun r _ => ?_
  refine wo_val (.bool (!r)) rfl (pv_un rfl) ?_
  refine wo_nil ?_
  refine wf_itebn rfl (fun hc => ?_) (fun hc => ?_)
  · refine wr_skip ?_
    refine wr_seq ?_
    refine wr_seq ?_
    refine wr_region ?_
    refine wo_val (.sl 3 (List.map rStation s)) rfl pv_move ?_
    refine wo_val (.sl 3 (List.map rStatus l)) rfl pv_move ?_
    refine of_call [(.sl 3 (List.map rStation s)), (.sl 3 (List.map rStatus l))] rfl rfl rfl rfl ((cp_ref26_Few s l) _) (fun v _ => wu_pan Try.func6 hI) fun r1 _ => ?_
    refine wo_val (.bool (!r1)) rfl (pv_un rfl) ?_
    refine wo_nil ?_
    refine wf_itebn rfl (fun hc1 => ?_) (fun hc1 => ?_)
    · refine wr_skip ?_
      refine wr_seq ?_
      refine wr_region ?_
      refine wo_val (.sl 3 (List.map rStation s)) rfl pv_move ?_
      refine wo_val (.int .i64 (s.length : Int)) rfl (pv_len (len_sl ti35)) ?_
      refine wo_val (.sl 3 (List.map rStatus l)) rfl pv_move ?_
      refine wo_val (.agg (rStatus one)) rfl (pv_load (ld_ptr hI rfl rfl rfl ti24 rfl)) ?_
      refine of_call [(.int .i64 (s.length : Int)), (.sl 3 (List.map rStatus l)), (.agg (rStatus one))] rfl rfl rfl rfl ((cp_radar_Add (s.length : Int) l one) _) (fun v _ => wu_pan Try.func6 hI) fun r2 _ => ?_
      refine wo_val (.tup [(.sl 3 (List.map rStatus r2.1)), (.int .i64 r2.2)]) rfl pv_move ?_
      refine wo_val (.sl 3 (List.map rStatus r2.1)) rfl (pv_ext rfl) ?_
      refine wo_val (.int .i64 r2.2) rfl (pv_ext rfl) ?_
      refine wo_val (.sl 3 (List.map rStatus r2.1)) rfl pv_assign ?_
      refine wo_val (.int .i64 r2.2) rfl pv_assign ?_
      refine wo_nil ?_
      refine wr_seq ?_
      refine wr_region ?_
      refine wo_val (.int .i64 volumes) rfl pv_move ?_
      refine wo_val (.sl 3 (List.map rStation s)) rfl pv_move ?_
      refine wo_val (.sl 3 (List.map rStatus l)) rfl pv_move ?_
      refine wo_val (.int .i64 minute) rfl pv_move ?_
      refine of_call [(.int .i64 volumes), (.sl 3 (List.map rStation s)), (.sl 3 (List.map rStatus l)), (.int .i64 minute)] rfl rfl rfl rfl ((cp_radar_Seen volumes s l minute) _) (fun v _ => wu_pan Try.func6 hI) fun r3 _ => ?_
      refine wo_val (.tup [(.sl 1 (List.map rB r3.1)), (.int .i64 r3.2)]) rfl pv_move ?_
      refine wo_val (.sl 1 (List.map rB r3.1)) rfl (pv_ext rfl) ?_
      refine wo_val (.int .i64 r3.2) rfl (pv_ext rfl) ?_
      refine wo_val (.sl 1 (List.map rB r3.1)) rfl pv_assign ?_
      refine wo_val (.int .i64 r3.2) rfl pv_assign ?_
      refine wo_nil ?_
      refine wr_seq ?_
      refine wr_region ?_
      refine wo_val (.int .i64 volumes) rfl pv_move ?_
      refine wo_val (.sl 3 (List.map rStation s)) rfl pv_move ?_
      refine wo_val (.sl 3 (List.map rStatus r2.1)) rfl pv_move ?_
      refine wo_val (.int .i64 minute) rfl pv_move ?_
      refine of_call [(.int .i64 volumes), (.sl 3 (List.map rStation s)), (.sl 3 (List.map rStatus r2.1)), (.int .i64 minute)] rfl rfl rfl rfl ((cp_radar_Seen volumes s r2.1 minute) _) (fun v _ => wu_pan Try.func6 hI) fun r4 _ => ?_
      refine wo_val (.tup [(.sl 1 (List.map rB r4.1)), (.int .i64 r4.2)]) rfl pv_move ?_
      refine wo_val (.sl 1 (List.map rB r4.1)) rfl (pv_ext rfl) ?_
      refine wo_val (.int .i64 r4.2) rfl (pv_ext rfl) ?_
      refine wo_val (.sl 1 (List.map rB r4.1)) rfl pv_assign ?_
      refine wo_val (.int .i64 r4.2) rfl pv_assign ?_
      refine wo_nil ?_
      refine wr_seq ?_
      refine wr_seq ?_
      refine wr_region ?_
      refine wo_val (.int .i64 r2.2) rfl pv_move ?_
      refine wo_val (.bool (r2.2 != 0)) rfl (pv_bin rfl rfl rfl) ?_
      refine wo_val (.bool (r2.2 != 0)) rfl pv_move ?_
      refine wo_meet 3 [(8, (.ptr (ix ids 0) g 0 0)), (13, (.sl 1 (List.map rB r3.1))), (15, (.sl 1 (List.map rB r4.1))), (16, (.int .i64 r4.2)), (53, (.bool ((r2.2 != 0) || (r3.2 != 0))))] ?_ fun hJ => wo_cases (r2.2 != 0) (fun hb1 => ?_) (fun hb1 => ?_)
      · refine wo_nil ?_
        refine wf_iteb rfl (fun hc2 => ?_) (fun hc2 => ?_)
        · refine wr_seq ?_
          refine wr_region ?_
          refine wo_val (.bool true) rfl pv_assign ?_
          refine wo_nil ?_
          exact wr_ret (a := true) (vs := [(.bool true)]) Try.func6 hI rfl (.same _)
        · refine wr_skip ?_
          refine wr_seq ?_
          refine wr_seq ?_
          refine wr_region ?_
          refine wo_val (.int .i64 r4.2) rfl pv_move ?_
          refine wo_val (.bool (r4.2 != 0)) rfl (pv_bin rfl rfl rfl) ?_
          refine wo_val (.bool (r4.2 != 0)) rfl pv_move ?_
          refine wo_meet 6 [(8, (.ptr (ix ids 0) g 0 0)), (13, (.sl 1 (List.map rB r3.1))), (15, (.sl 1 (List.map rB r4.1))), (62, (.bool ((r4.2 != 0) || ((r3.1.length : Int) != (r4.1.length : Int)))))] ?_ fun hJ1 => wo_cases (r4.2 != 0) (fun hb3 => ?_) (fun hb3 => ?_)
          · refine wo_nil ?_
            refine wf_iteb rfl (fun hc3 => ?_) (fun hc3 => ?_)
            · refine wr_seq ?_
              refine wr_region ?_
              refine wo_val (.bool false) rfl pv_assign ?_
              refine wo_nil ?_
              exact wr_ret (a := false) (vs := [(.bool false)]) Try.func6 hI rfl (.same _)
            · refine wr_skip ?_
              refine wr_seq ?_
              refine wr_seq ?_
              refine wr_region ?_
              refine wo_val (.sl 1 (List.map rB r3.1)) rfl pv_move ?_
              refine wo_val (.int .i64 (r3.1.length : Int)) rfl (pv_len (len_sl ti39)) ?_
              refine wo_val (.int .i64 0) rfl pv_move ?_
              refine wo_nil ?_
              refine wr_block ?_
              refine wr_is [(8, (.ptr (ix ids 0) g 0 0)), (13, (.sl 1 (List.map rB r3.1))), (15, (.sl 1 (List.map rB r4.1))), (64, (.int .i64 (r3.1.length : Int))), (65, (.int .i64 0))] (.cons rfl (.cons rfl (.cons rfl (.cons rfl (.cons rfl .nil))))) ?_
              refine wf_each' (P := Try.prog) r3.1 (fun j a => fun _ => law26_RadarSays_b1 one r4 j a) ((alt (fun _ => .ok true) (fun r => .ok r)) : (Unit ⊕ Bool) → R Bool)
                (fun j => fun _ => fun (fr : Nat → AV) (h : AHeap) => fr = frA [(8, (.ptr (ix ids 0) g 0 0)), (13, (.sl 1 (List.map rB r3.1))), (15, (.sl 1 (List.map rB r4.1))), (64, (.int .i64 (r3.1.length : Int))), (65, (.int .i64 (j : Int)))] ∧ h = hp h0 ids [(some (.rows g 3 [(rStatus one)]))]) () ?_ ?_ ?_
              · exact ⟨rfl, rfl⟩
              · rintro j a ha W hW _ fr h ⟨rfl, rfl⟩
                refine wr_mod (m' := law26_RadarSays_b1 one r4 j a) rfl (wr_mod (law26_RadarSays_b1.eq_1 _ _ _ _) ?_)
                refine wr_seq ?_
                refine wr_region ?_
                refine wo_val (.bool (decide ((j : Int) < (r3.1.length : Int)))) rfl (pv_bin rfl rfl rfl) ?_
                refine wo_nil ?_
                refine wr_seq ?_
                refine wr_lim (t := 13) (L := r3.1) rfl fun hlim => ?_
                refine wr_condT rfl (Int.ofNat_lt.2 (lt_of_get ha)) ?_
                refine wr_skip ?_
                refine wr_seq ?_
                refine wr_block ?_
                refine wr_seq ?_
                refine wr_region ?_
                refine wo_val (.int .i64 (j : Int)) rfl pv_move ?_
                refine wo_val (.int .i64 (j : Int)) rfl pv_assign ?_
                refine wo_nil ?_
                refine wr_seq ?_
                refine wr_region ?_
                refine wo_val (.ptr (ix ids 0) g 0 2) rfl (pv_fa (fa_ptr (c := 0) (off := 2) (i := 2) ti24 rfl ti4 rfl)) ?_
                refine wo_val (.bool one.Works) rfl (pv_load (ld_ptr hI rfl rfl rfl ti4 rfl)) ?_
                refine wo_val (.bool one.Works) rfl pv_move ?_
                refine wo_meet 5 [(8, (.ptr (ix ids 0) g 0 0)), (13, (.sl 1 (List.map rB r3.1))), (15, (.sl 1 (List.map rB r4.1))), (17, (.int .i64 (j : Int))), (64, (.int .i64 (r3.1.length : Int))), (65, (.int .i64 (j : Int))), (75, (.bool (one.Works && a)))] ?_ fun hJ2 => wo_cases one.Works (fun hb5 => ?_) (fun hb5 => ?_)
                · refine wo_val (.bool (one.Works && a)) rfl pv_move ?_
                  refine wo_join 6 ((fun (b : Bool) => (if b then R.ok true else (if ((!one.Works) && (!a)) then (idx r4.1 (j : Int)).bind fun a2 =>
  R.ok a2 else R.ok false).bind (fun (b2 : Bool) => R.ok b2)).bind (fun (b1 : Bool) => if b1 then
(.ok (.inr (false)))
else
(.ok (.inl ())))) : Bool → R (Unit ⊕ Bool)) (fun (b : Bool) (fr : Nat → AV) (h : AHeap) => fr = frA [(8, (.ptr (ix ids 0) g 0 0)), (13, (.sl 1 (List.map rB r3.1))), (15, (.sl 1 (List.map rB r4.1))), (17, (.int .i64 (j : Int))), (64, (.int .i64 (r3.1.length : Int))), (65, (.int .i64 (j : Int))), (82, (.bool b))] ∧ h = hp h0 ids [(some (.rows g 3 [(rStatus one)]))]) ?_ fun hJ3 => of_if1 (fun hb7 => ?_) (fun hb7 => ?_)
                  · rintro b fr h ⟨rfl, rfl⟩
                    refine wo_val (.bool b) rfl pv_move ?_
                    refine wo_join 17 ((fun (b1 : Bool) => if b1 then
(.ok (.inr (false)))
else
(.ok (.inl ()))) : Bool → R (Unit ⊕ Bool)) (fun (b1 : Bool) (fr : Nat → AV) (h : AHeap) => fr = frA [(8, (.ptr (ix ids 0) g 0 0)), (13, (.sl 1 (List.map rB r3.1))), (15, (.sl 1 (List.map rB r4.1))), (64, (.int .i64 (r3.1.length : Int))), (65, (.int .i64 (j : Int))), (100, (.bool b1))] ∧ h = hp h0 ids [(some (.rows g 3 [(rStatus one)]))]) ?_ fun hJ4 => of_if1 (fun hb9 => ?_) (fun hb9 => ?_)
                    · rintro b1 fr h ⟨rfl, rfl⟩
                      refine wo_nil ?_
                      refine wf_iteb rfl (fun hc4 => ?_) (fun hc4 => ?_)
                      · refine wr_seq ?_
                        refine wr_region ?_
                        refine wo_val (.bool false) rfl pv_assign ?_
                        refine wo_nil ?_
                        refine wx_each ?_
                        refine w_altr ?_
                        exact wr_ret (a := false) (vs := [(.bool false)]) Try.func6 hI rfl (.same _)
                      · refine wr_skip ?_
                        refine wr_inBlock ?_
                        refine wr_region ?_
                        refine wo_val (.int .i64 (IntKind.wrap .i64 ((j : Int) + 1))) rfl (pv_bin rfl rfl rfl) ?_
                        refine wo_val (.int .i64 (IntKind.wrap .i64 ((j : Int) + 1))) rfl pv_move ?_
                        refine wo_nil ?_
                        refine wr_is [(8, (.ptr (ix ids 0) g 0 0)), (13, (.sl 1 (List.map rB r3.1))), (15, (.sl 1 (List.map rB r4.1))), (64, (.int .i64 (r3.1.length : Int))), (65, (.int .i64 ((j + 1 : Nat) : Int)))] (.cons rfl (.cons rfl (.cons rfl (.cons rfl (.cons (inc_ok (lt_of_get ha) hlim) .nil))))) ?_
                        refine wb_each ?_
                        refine hW () _ _ ?_
                        exact ⟨rfl, rfl⟩
                    · refine wo_not (tj := 83) (b := true) rfl (congrArg AV.bool hb9) rfl rfl ?_
                      refine wo_not (tj := 83) (b := true) rfl (congrArg AV.bool hb9) rfl rfl ?_
                      refine wo_not (tj := 83) (b := true) rfl (congrArg AV.bool hb9) rfl rfl ?_
                      refine wo_not (tj := 83) (b := true) rfl (congrArg AV.bool hb9) rfl rfl ?_
                      refine wo_notu (tj := 87) rfl rfl rfl ?_
                      refine wo_notu (tj := 87) rfl rfl rfl ?_
                      refine wo_notu (tj := 87) rfl rfl rfl ?_
                      refine wo_notu (tj := 87) rfl rfl rfl ?_
                      refine wo_notu (tj := 87) rfl rfl rfl ?_
                      refine wo_not (tj := 83) (b := true) rfl (congrArg AV.bool hb9) rfl rfl ?_
                      refine wo_not (tj := 83) (b := true) rfl (congrArg AV.bool hb9) rfl rfl ?_
                      refine wo_notu (tj := 94) rfl rfl rfl ?_
                      refine wo_notu (tj := 94) rfl rfl rfl ?_
                      refine wo_notu (tj := 94) rfl rfl rfl ?_
                      refine wo_notu (tj := 94) rfl rfl rfl ?_
                      refine wo_not (tj := 83) (b := true) rfl (congrArg AV.bool hb9) rfl rfl ?_
                      refine wo_val (.bool true) rfl (pv_pick (t := true) (congrArg AV.bool hb9) rfl) ?_
                      refine wo_back1 ?_
                      refine wo_is [(8, (.ptr (ix ids 0) g 0 0)), (13, (.sl 1 (List.map rB r3.1))), (15, (.sl 1 (List.map rB r4.1))), (64, (.int .i64 (r3.1.length : Int))), (65, (.int .i64 (j : Int))), (100, (.bool true))] (.cons rfl (.cons rfl (.cons rfl (.cons rfl (.cons rfl (.cons rfl .nil)))))) ?_
                      exact hJ4 true _ _ ⟨rfl, rfl⟩
                    · refine wo_valg (tj := 83) (.ptr (ix ids 0) g 0 2) rfl (congrArg AV.bool hb9) rfl (pv_fa (fa_ptr (c := 0) (off := 2) (i := 2) ti24 rfl ti4 rfl)) ?_
                      refine wo_valg (tj := 83) (.bool one.Works) rfl (congrArg AV.bool hb9) rfl (pv_load (ld_ptr hI rfl rfl rfl ti4 rfl)) ?_
                      refine wo_valg (tj := 83) (.bool (!one.Works)) rfl (congrArg AV.bool hb9) rfl (pv_un rfl) ?_
                      refine wo_valg (tj := 83) (.bool (!one.Works)) rfl (congrArg AV.bool hb9) rfl pv_move ?_
                      refine wo_meet 6 [(8, (.ptr (ix ids 0) g 0 0)), (13, (.sl 1 (List.map rB r3.1))), (15, (.sl 1 (List.map rB r4.1))), (17, (.int .i64 (j : Int))), (64, (.int .i64 (r3.1.length : Int))), (65, (.int .i64 (j : Int))), (83, (.bool b)), (84, (.ptr (ix ids 0) g 0 2)), (85, (.bool one.Works)), (86, (.bool (!one.Works))), (87, (.bool (!one.Works))), (93, (.bool ((!one.Works) && (!a))))] ?_ fun hJ5 => wo_cases (!one.Works) (fun hb11 => ?_) (fun hb11 => ?_)
                      · refine wo_valg (tj := 83) (.bool ((!one.Works) && (!a))) rfl (congrArg AV.bool hb9) rfl pv_move ?_
                        refine wo_join 5 ((fun (b2 : Bool) => R.ok b2) : Bool → R Bool) (fun (b2 : Bool) (fr : Nat → AV) (h : AHeap) => fr = frA [(8, (.ptr (ix ids 0) g 0 0)), (13, (.sl 1 (List.map rB r3.1))), (15, (.sl 1 (List.map rB r4.1))), (64, (.int .i64 (r3.1.length : Int))), (65, (.int .i64 (j : Int))), (83, (.bool b)), (84, (.ptr (ix ids 0) g 0 2)), (85, (.bool one.Works)), (86, (.bool (!one.Works))), (87, (.bool (!one.Works))), (93, (.bool ((!one.Works) && (!a)))), (94, (.bool ((!one.Works) && (!a)))), (99, (.bool b2))] ∧ h = hp h0 ids [(some (.rows g 3 [(rStatus one)]))]) ?_ fun hJ6 => of_if1 (fun hb13 => ?_) (fun hb13 => ?_)
                        · rintro b2 fr h ⟨rfl, rfl⟩
                          refine wo_val (.bool b2) rfl (pv_pick (t := false) (congrArg AV.bool hb9) rfl) ?_
                          refine wo_back1 ?_
                          refine wo_is [(8, (.ptr (ix ids 0) g 0 0)), (13, (.sl 1 (List.map rB r3.1))), (15, (.sl 1 (List.map rB r4.1))), (64, (.int .i64 (r3.1.length : Int))), (65, (.int .i64 (j : Int))), (100, (.bool b2))] (.cons rfl (.cons rfl (.cons rfl (.cons rfl (.cons rfl (.cons rfl .nil)))))) ?_
                          exact hJ4 b2 _ _ ⟨rfl, rfl⟩
                        · refine wo_valg (tj := 94) (.sl 1 (List.map rB r4.1)) rfl (congrArg AV.bool hb13) rfl pv_move ?_
                          refine wo_valg (tj := 94) (.int .i64 (j : Int)) rfl (congrArg AV.bool hb13) rfl pv_move ?_
                          refine of_idx fun a2 hz1 hx2 => ?_
                          refine wo_valg (tj := 94) (.cp [(.bool a2)] 0) rfl (congrArg AV.bool hb13) rfl (pv_ixa (ixa_sl ti39 ti4 rfl hz1 hx2)) ?_
                          refine wo_valg (tj := 94) (.bool a2) rfl (congrArg AV.bool hb13) rfl (pv_load (ld_cp ti4 rfl)) ?_
                          refine wo_valg (tj := 83) (.bool a2) rfl (congrArg AV.bool hb9) rfl (pv_pick (t := true) (congrArg AV.bool hb13) rfl) ?_
                          refine wo_back1 ?_
                          refine wo_is [(8, (.ptr (ix ids 0) g 0 0)), (13, (.sl 1 (List.map rB r3.1))), (15, (.sl 1 (List.map rB r4.1))), (64, (.int .i64 (r3.1.length : Int))), (65, (.int .i64 (j : Int))), (83, (.bool b)), (84, (.ptr (ix ids 0) g 0 2)), (85, (.bool one.Works)), (86, (.bool (!one.Works))), (87, (.bool (!one.Works))), (93, (.bool ((!one.Works) && (!a)))), (94, (.bool ((!one.Works) && (!a)))), (99, (.bool a2))] (.cons rfl (.cons rfl (.cons rfl (.cons rfl (.cons rfl (.cons rfl (.cons rfl (.cons rfl (.cons rfl (.cons rfl (.cons rfl (.cons rfl (.cons rfl .nil))))))))))))) ?_
                          exact hJ6 a2 _ _ ⟨rfl, rfl⟩
                        · refine wo_not (tj := 94) (b := false) rfl (congrArg AV.bool hb13) rfl rfl ?_
                          refine wo_not (tj := 94) (b := false) rfl (congrArg AV.bool hb13) rfl rfl ?_
                          refine wo_not (tj := 94) (b := false) rfl (congrArg AV.bool hb13) rfl rfl ?_
                          refine wo_not (tj := 94) (b := false) rfl (congrArg AV.bool hb13) rfl rfl ?_
                          refine wo_valg (tj := 83) (.bool false) rfl (congrArg AV.bool hb9) rfl (pv_pick (t := false) (congrArg AV.bool hb13) rfl) ?_
                          refine wo_back1 ?_
                          refine wo_is [(8, (.ptr (ix ids 0) g 0 0)), (13, (.sl 1 (List.map rB r3.1))), (15, (.sl 1 (List.map rB r4.1))), (64, (.int .i64 (r3.1.length : Int))), (65, (.int .i64 (j : Int))), (83, (.bool b)), (84, (.ptr (ix ids 0) g 0 2)), (85, (.bool one.Works)), (86, (.bool (!one.Works))), (87, (.bool (!one.Works))), (93, (.bool ((!one.Works) && (!a)))), (94, (.bool ((!one.Works) && (!a)))), (99, (.bool false))] (.cons rfl (.cons rfl (.cons rfl (.cons rfl (.cons rfl (.cons rfl (.cons rfl (.cons rfl (.cons rfl (.cons rfl (.cons rfl (.cons rfl (.cons rfl .nil))))))))))))) ?_
                          exact hJ6 false _ _ ⟨rfl, rfl⟩
                      · refine wo_valg (tj := 87) (.sl 1 (List.map rB r3.1)) rfl (congrArg AV.bool hb11) rfl pv_move ?_
                        refine wo_valg (tj := 87) (.int .i64 (j : Int)) rfl (congrArg AV.bool hb11) rfl pv_move ?_
                        refine wo_valg (tj := 87) (.cp [(.bool a)] 0) rfl (congrArg AV.bool hb11) rfl (pv_ixa (ixa_nat ti39 ti4 rfl ha)) ?_
                        refine wo_valg (tj := 87) (.bool a) rfl (congrArg AV.bool hb11) rfl (pv_load (ld_cp ti4 rfl)) ?_
                        refine wo_valg (tj := 87) (.bool (!a)) rfl (congrArg AV.bool hb11) rfl (pv_un rfl) ?_
                        refine wo_valg (tj := 83) (.bool (!a)) rfl (congrArg AV.bool hb9) rfl (pv_pick (t := true) (congrArg AV.bool hb11) rfl) ?_
                        exact wo_is [(8, (.ptr (ix ids 0) g 0 0)), (13, (.sl 1 (List.map rB r3.1))), (15, (.sl 1 (List.map rB r4.1))), (17, (.int .i64 (j : Int))), (64, (.int .i64 (r3.1.length : Int))), (65, (.int .i64 (j : Int))), (83, (.bool b)), (84, (.ptr (ix ids 0) g 0 2)), (85, (.bool one.Works)), (86, (.bool (!one.Works))), (87, (.bool (!one.Works))), (93, (.bool ((!one.Works) && (!a))))] (.cons rfl (.cons rfl (.cons rfl (.cons rfl (.cons rfl (.cons rfl (.cons rfl (.cons rfl (.cons rfl (.cons rfl (.cons rfl (.cons (and_t hb11) .nil)))))))))))) hJ5
                      · refine wo_not (tj := 87) (b := false) rfl (congrArg AV.bool hb11) rfl rfl ?_
                        refine wo_not (tj := 87) (b := false) rfl (congrArg AV.bool hb11) rfl rfl ?_
                        refine wo_not (tj := 87) (b := false) rfl (congrArg AV.bool hb11) rfl rfl ?_
                        refine wo_not (tj := 87) (b := false) rfl (congrArg AV.bool hb11) rfl rfl ?_
                        refine wo_not (tj := 87) (b := false) rfl (congrArg AV.bool hb11) rfl rfl ?_
                        refine wo_valg (tj := 83) (.bool false) rfl (congrArg AV.bool hb9) rfl (pv_pick (t := false) (congrArg AV.bool hb11) rfl) ?_
                        exact wo_is [(8, (.ptr (ix ids 0) g 0 0)), (13, (.sl 1 (List.map rB r3.1))), (15, (.sl 1 (List.map rB r4.1))), (17, (.int .i64 (j : Int))), (64, (.int .i64 (r3.1.length : Int))), (65, (.int .i64 (j : Int))), (83, (.bool b)), (84, (.ptr (ix ids 0) g 0 2)), (85, (.bool one.Works)), (86, (.bool (!one.Works))), (87, (.bool (!one.Works))), (93, (.bool ((!one.Works) && (!a))))] (.cons rfl (.cons rfl (.cons rfl (.cons rfl (.cons rfl (.cons rfl (.cons rfl (.cons rfl (.cons rfl (.cons rfl (.cons rfl (.cons (and_f hb11) .nil)))))))))))) hJ5
                  · refine wo_valg (tj := 76) (.sl 1 (List.map rB r4.1)) rfl (congrArg AV.bool hb7) rfl pv_move ?_
                    refine wo_valg (tj := 76) (.int .i64 (j : Int)) rfl (congrArg AV.bool hb7) rfl pv_move ?_
                    refine of_idx fun a1 hz hx1 => ?_
                    refine wo_valg (tj := 76) (.cp [(.bool a1)] 0) rfl (congrArg AV.bool hb7) rfl (pv_ixa (ixa_sl ti39 ti4 rfl hz hx1)) ?_
                    refine wo_valg (tj := 76) (.bool a1) rfl (congrArg AV.bool hb7) rfl (pv_load (ld_cp ti4 rfl)) ?_
                    refine wo_valg (tj := 76) (.bool (!a1)) rfl (congrArg AV.bool hb7) rfl (pv_un rfl) ?_
                    refine wo_val (.bool (!a1)) rfl (pv_pick (t := true) (congrArg AV.bool hb7) rfl) ?_
                    refine wo_back1 ?_
                    refine wo_is [(8, (.ptr (ix ids 0) g 0 0)), (13, (.sl 1 (List.map rB r3.1))), (15, (.sl 1 (List.map rB r4.1))), (17, (.int .i64 (j : Int))), (64, (.int .i64 (r3.1.length : Int))), (65, (.int .i64 (j : Int))), (82, (.bool (!a1)))] (.cons rfl (.cons rfl (.cons rfl (.cons rfl (.cons rfl (.cons rfl (.cons rfl .nil))))))) ?_
                    exact hJ3 (!a1) _ _ ⟨rfl, rfl⟩
                  · refine wo_not (tj := 76) (b := false) rfl (congrArg AV.bool hb7) rfl rfl ?_
                    refine wo_not (tj := 76) (b := false) rfl (congrArg AV.bool hb7) rfl rfl ?_
                    refine wo_not (tj := 76) (b := false) rfl (congrArg AV.bool hb7) rfl rfl ?_
                    refine wo_not (tj := 76) (b := false) rfl (congrArg AV.bool hb7) rfl rfl ?_
                    refine wo_not (tj := 76) (b := false) rfl (congrArg AV.bool hb7) rfl rfl ?_
                    refine wo_val (.bool false) rfl (pv_pick (t := false) (congrArg AV.bool hb7) rfl) ?_
                    refine wo_back1 ?_
                    refine wo_is [(8, (.ptr (ix ids 0) g 0 0)), (13, (.sl 1 (List.map rB r3.1))), (15, (.sl 1 (List.map rB r4.1))), (17, (.int .i64 (j : Int))), (64, (.int .i64 (r3.1.length : Int))), (65, (.int .i64 (j : Int))), (82, (.bool false))] (.cons rfl (.cons rfl (.cons rfl (.cons rfl (.cons rfl (.cons rfl (.cons rfl .nil))))))) ?_
                    exact hJ3 false _ _ ⟨rfl, rfl⟩
                · refine wo_valg (tj := 70) (.sl 1 (List.map rB r3.1)) rfl (congrArg AV.bool hb5) rfl pv_move ?_
                  refine wo_valg (tj := 70) (.int .i64 (j : Int)) rfl (congrArg AV.bool hb5) rfl pv_move ?_
                  refine wo_valg (tj := 70) (.cp [(.bool a)] 0) rfl (congrArg AV.bool hb5) rfl (pv_ixa (ixa_nat ti39 ti4 rfl ha)) ?_
                  refine wo_valg (tj := 70) (.bool a) rfl (congrArg AV.bool hb5) rfl (pv_load (ld_cp ti4 rfl)) ?_
                  refine wo_val (.bool a) rfl (pv_pick (t := true) (congrArg AV.bool hb5) rfl) ?_
                  exact wo_is [(8, (.ptr (ix ids 0) g 0 0)), (13, (.sl 1 (List.map rB r3.1))), (15, (.sl 1 (List.map rB r4.1))), (17, (.int .i64 (j : Int))), (64, (.int .i64 (r3.1.length : Int))), (65, (.int .i64 (j : Int))), (75, (.bool (one.Works && a)))] (.cons rfl (.cons rfl (.cons rfl (.cons rfl (.cons rfl (.cons rfl (.cons (and_t hb5) .nil))))))) hJ2
                · refine wo_not (tj := 70) (b := false) rfl (congrArg AV.bool hb5) rfl rfl ?_
                  refine wo_not (tj := 70) (b := false) rfl (congrArg AV.bool hb5) rfl rfl ?_
                  refine wo_not (tj := 70) (b := false) rfl (congrArg AV.bool hb5) rfl rfl ?_
                  refine wo_not (tj := 70) (b := false) rfl (congrArg AV.bool hb5) rfl rfl ?_
                  refine wo_val (.bool false) rfl (pv_pick (t := false) (congrArg AV.bool hb5) rfl) ?_
                  exact wo_is [(8, (.ptr (ix ids 0) g 0 0)), (13, (.sl 1 (List.map rB r3.1))), (15, (.sl 1 (List.map rB r4.1))), (17, (.int .i64 (j : Int))), (64, (.int .i64 (r3.1.length : Int))), (65, (.int .i64 (j : Int))), (75, (.bool (one.Works && a)))] (.cons rfl (.cons rfl (.cons rfl (.cons rfl (.cons rfl (.cons rfl (.cons (and_f hb5) .nil))))))) hJ2
              · rintro _ fr h ⟨rfl, rfl⟩
                refine wr_mod (alt_inl _ _ _) ?_
                refine wr_seq ?_
                refine wr_region ?_
                refine wo_val (.bool (decide ((r3.1.length : Int) < (r3.1.length : Int)))) rfl (pv_bin rfl rfl rfl) ?_
                refine wo_nil ?_
                refine wr_seq ?_
                refine wr_condF rfl (Int.lt_irrefl _) ?_
                refine wr_exit rfl ?_
                refine wr_seq ?_
                refine wr_region ?_
                refine wo_val (.bool true) rfl pv_assign ?_
                refine wo_nil ?_
                exact wr_ret (a := true) (vs := [(.bool true)]) Try.func6 hI rfl (.same _)
          · refine wo_not (tj := 56) (b := true) rfl (congrArg AV.bool hb3) rfl rfl ?_
            refine wo_not (tj := 56) (b := true) rfl (congrArg AV.bool hb3) rfl rfl ?_
            refine wo_not (tj := 56) (b := true) rfl (congrArg AV.bool hb3) rfl rfl ?_
            refine wo_not (tj := 56) (b := true) rfl (congrArg AV.bool hb3) rfl rfl ?_
            refine wo_not (tj := 56) (b := true) rfl (congrArg AV.bool hb3) rfl rfl ?_
            refine wo_val (.bool true) rfl (pv_pick (t := true) (congrArg AV.bool hb3) rfl) ?_
            exact wo_is [(8, (.ptr (ix ids 0) g 0 0)), (13, (.sl 1 (List.map rB r3.1))), (15, (.sl 1 (List.map rB r4.1))), (62, (.bool ((r4.2 != 0) || ((r3.1.length : Int) != (r4.1.length : Int)))))] (.cons rfl (.cons rfl (.cons rfl (.cons (or_t hb3) .nil)))) hJ1
          · refine wo_valg (tj := 56) (.sl 1 (List.map rB r3.1)) rfl (congrArg AV.bool hb3) rfl pv_move ?_
            refine wo_valg (tj := 56) (.int .i64 (r3.1.length : Int)) rfl (congrArg AV.bool hb3) rfl (pv_len (len_sl ti39)) ?_
            refine wo_valg (tj := 56) (.sl 1 (List.map rB r4.1)) rfl (congrArg AV.bool hb3) rfl pv_move ?_
            refine wo_valg (tj := 56) (.int .i64 (r4.1.length : Int)) rfl (congrArg AV.bool hb3) rfl (pv_len (len_sl ti39)) ?_
            refine wo_valg (tj := 56) (.bool ((r3.1.length : Int) != (r4.1.length : Int))) rfl (congrArg AV.bool hb3) rfl (pv_bin rfl rfl rfl) ?_
            refine wo_val (.bool ((r3.1.length : Int) != (r4.1.length : Int))) rfl (pv_pick (t := false) (congrArg AV.bool hb3) rfl) ?_
            exact wo_is [(8, (.ptr (ix ids 0) g 0 0)), (13, (.sl 1 (List.map rB r3.1))), (15, (.sl 1 (List.map rB r4.1))), (62, (.bool ((r4.2 != 0) || ((r3.1.length : Int) != (r4.1.length : Int)))))] (.cons rfl (.cons rfl (.cons rfl (.cons (or_f hb3) .nil)))) hJ1
      · refine wo_not (tj := 50) (b := true) rfl (congrArg AV.bool hb1) rfl rfl ?_
        refine wo_not (tj := 50) (b := true) rfl (congrArg AV.bool hb1) rfl rfl ?_
        refine wo_val (.bool true) rfl (pv_pick (t := true) (congrArg AV.bool hb1) rfl) ?_
        exact wo_is [(8, (.ptr (ix ids 0) g 0 0)), (13, (.sl 1 (List.map rB r3.1))), (15, (.sl 1 (List.map rB r4.1))), (16, (.int .i64 r4.2)), (53, (.bool ((r2.2 != 0) || (r3.2 != 0))))] (.cons rfl (.cons rfl (.cons rfl (.cons rfl (.cons (or_t hb1) .nil))))) hJ
      · refine wo_valg (tj := 50) (.int .i64 r3.2) rfl (congrArg AV.bool hb1) rfl pv_move ?_
        refine wo_valg (tj := 50) (.bool (r3.2 != 0)) rfl (congrArg AV.bool hb1) rfl (pv_bin rfl rfl rfl) ?_
        refine wo_val (.bool (r3.2 != 0)) rfl (pv_pick (t := false) (congrArg AV.bool hb1) rfl) ?_
        exact wo_is [(8, (.ptr (ix ids 0) g 0 0)), (13, (.sl 1 (List.map rB r3.1))), (15, (.sl 1 (List.map rB r4.1))), (16, (.int .i64 r4.2)), (53, (.bool ((r2.2 != 0) || (r3.2 != 0))))] (.cons rfl (.cons rfl (.cons rfl (.cons rfl (.cons (or_f hb1) .nil))))) hJ
    · refine wr_seq ?_
      refine wr_region ?_
      refine wo_val (.bool true) rfl pv_assign ?_
      refine wo_nil ?_
      exact wr_ret (a := true) (vs := [(.bool true)]) Try.func6 hI rfl (.same _)
  · refine wr_seq ?_
    refine wr_region ?_
    refine wo_val (.bool false) rfl pv_assign ?_
    refine wo_nil ?_
    exact wr_ret (a := false) (vs := [(.bool false)]) Try.func6 hI rfl (.same _)

theorem cp_law26_RadarOrder (many : Int) (l : (List Status)) (a : Status) (b : Status) : CP Try.prog 7 [(.int .i64 many), (.sl 3 (List.map rStatus l)), (.agg (rStatus a)), (.agg (rStatus b))] (law26_RadarOrder many l a b) (fun (x : Bool) => (AV.bool x)) := by
  refine cp_intro (n := 105) 2 Try.func7 rfl (by decide) rfl rfl fun h0 ids hI => ?_
  refine wr_in (wr_mod (law26_RadarOrder.eq_1 _ _ _ _) ?_)
  refine wr_seq ?_
  refine wr_region ?_
  refine wo_box (v := (.agg (rStatus a))) (j := 0) hI rfl rfl rfl rfl rfl rfl rfl fun g => ?_
  refine wo_box (v := (.agg (rStatus b))) (j := 1) hI rfl rfl rfl rfl rfl rfl rfl fun g1 => ?_
  refine wo_val (.bool false) rfl pv_assign ?_
  refine wo_nil ?_
  refine wr_hp [(some (.rows g 3 [(rStatus a)])), (some (.rows g1 3 [(rStatus b)]))] rfl ?_
  refine wr_seq ?_
  refine wr_seq ?_
  refine wr_region ?_
  refine of_call [] rfl rfl rfl rfl ((cp_law26_sane) _) (fun v _ => wu_pan Try.func7 hI) fun r _ => ?_
  refine wo_val (.bool (!r)) rfl (pv_un rfl) ?_
  refine wo_nil ?_
  refine wf_itebn rfl (fun hc => ?_) (fun hc => ?_)
  · refine wr_skip ?_
    refine wr_seq ?_
    refine wr_seq ?_
    refine wr_region ?_
    refine wo_val (.sl 3 (List.map rStatus l)) rfl pv_move ?_
    refine of_call [.emp, (.sl 3 (List.map rStatus l))] rfl rfl rfl rfl (fun hb => ACalls.weak (.cons (.emp _) (.cons (.same _) .nil)) ((cp_ref26_Few [] l) _ hb)) (fun v _ => wu_pan Try.func7 hI) fun r1 _ => ?_
    refine wo_val (.bool (!r1)) rfl (pv_un rfl) ?_
    refine wo_val (.bool (!r1)) rfl pv_move ?_
    refine wo_meet 13 [(0, (.int .i64 many)), (1, (.sl 3 (List.map rStatus l))), (6, (.ptr (ix ids 0) g 0 0)), (7, (.ptr (ix ids 1) g1 0 0)), (37, (.bool ((!r1) || ((a.Station == b.Station) && (a.From == b.From)))))] ?_ fun hJ => wo_cases (!r1) (fun hb1 => ?_) (fun hb1 => ?_)
    · refine wo_nil ?_
      refine wf_iteb rfl (fun hc1 => ?_) (fun hc1 => ?_)
      · refine wr_seq ?_
        refine wr_region ?_
        refine wo_val (.bool true) rfl pv_assign ?_
        refine wo_nil ?_
        exact wr_ret (a := true) (vs := [(.bool true)]) Try.func7 hI rfl (.same _)
      · refine wr_skip ?_
        refine wr_seq ?_
        refine wr_region ?_
        refine wo_val (.int .i64 many) rfl pv_move ?_
        refine wo_val (.sl 3 (List.map rStatus l)) rfl pv_move ?_
        refine wo_val (.agg (rStatus a)) rfl (pv_load (ld_ptr hI rfl rfl rfl ti24 rfl)) ?_
        refine of_call [(.int .i64 many), (.sl 3 (List.map rStatus l)), (.agg (rStatus a))] rfl rfl rfl rfl ((cp_radar_Add many l a) _) (fun v _ => wu_pan Try.func7 hI) fun r2 _ => ?_
        refine wo_val (.tup [(.sl 3 (List.map rStatus r2.1)), (.int .i64 r2.2)]) rfl pv_move ?_
        refine wo_val (.sl 3 (List.map rStatus r2.1)) rfl (pv_ext rfl) ?_
        refine wo_val (.int .i64 r2.2) rfl (pv_ext rfl) ?_
        refine wo_val (.sl 3 (List.map rStatus r2.1)) rfl pv_assign ?_
        refine wo_val (.int .i64 r2.2) rfl pv_assign ?_
        refine wo_nil ?_
        refine wr_seq ?_
        refine wr_region ?_
        refine wo_val (.int .i64 many) rfl pv_move ?_
        refine wo_val (.sl 3 (List.map rStatus l)) rfl pv_move ?_
        refine wo_val (.agg (rStatus b)) rfl (pv_load (ld_ptr hI rfl rfl rfl ti24 rfl)) ?_
        refine of_call [(.int .i64 many), (.sl 3 (List.map rStatus l)), (.agg (rStatus b))] rfl rfl rfl rfl ((cp_radar_Add many l b) _) (fun v _ => wu_pan Try.func7 hI) fun r3 _ => ?_
        refine wo_val (.tup [(.sl 3 (List.map rStatus r3.1)), (.int .i64 r3.2)]) rfl pv_move ?_
        refine wo_val (.sl 3 (List.map rStatus r3.1)) rfl (pv_ext rfl) ?_
        refine wo_val (.int .i64 r3.2) rfl (pv_ext rfl) ?_
        refine wo_val (.sl 3 (List.map rStatus r3.1)) rfl pv_assign ?_
        refine wo_val (.int .i64 r3.2) rfl pv_assign ?_
        refine wo_nil ?_
        refine wr_seq ?_
        refine wr_seq ?_
        refine wr_region ?_
        refine wo_val (.int .i64 r2.2) rfl pv_move ?_
        refine wo_val (.bool (r2.2 != 0)) rfl (pv_bin rfl rfl rfl) ?_
        refine wo_val (.bool (r2.2 != 0)) rfl pv_move ?_
        refine wo_meet 3 [(0, (.int .i64 many)), (6, (.ptr (ix ids 0) g 0 0)), (7, (.ptr (ix ids 1) g1 0 0)), (9, (.sl 3 (List.map rStatus r2.1))), (11, (.sl 3 (List.map rStatus r3.1))), (57, (.bool ((r2.2 != 0) || (r3.2 != 0))))] ?_ fun hJ2 => wo_cases (r2.2 != 0) (fun hb5 => ?_) (fun hb5 => ?_)
        · refine wo_nil ?_
          refine wf_iteb rfl (fun hc2 => ?_) (fun hc2 => ?_)
          · refine wr_seq ?_
            refine wr_region ?_
            refine wo_val (.bool true) rfl pv_assign ?_
            refine wo_nil ?_
            exact wr_ret (a := true) (vs := [(.bool true)]) Try.func7 hI rfl (.same _)
          · refine wr_skip ?_
            refine wr_seq ?_
            refine wr_region ?_
            refine wo_val (.int .i64 many) rfl pv_move ?_
            refine wo_val (.sl 3 (List.map rStatus r2.1)) rfl pv_move ?_
            refine wo_val (.agg (rStatus b)) rfl (pv_load (ld_ptr hI rfl rfl rfl ti24 rfl)) ?_
            refine of_call [(.int .i64 many), (.sl 3 (List.map rStatus r2.1)), (.agg (rStatus b))] rfl rfl rfl rfl ((cp_radar_Add many r2.1 b) _) (fun v _ => wu_pan Try.func7 hI) fun r4 _ => ?_
            refine wo_val (.tup [(.sl 3 (List.map rStatus r4.1)), (.int .i64 r4.2)]) rfl pv_move ?_
            refine wo_val (.sl 3 (List.map rStatus r4.1)) rfl (pv_ext rfl) ?_
            refine wo_val (.int .i64 r4.2) rfl (pv_ext rfl) ?_
            refine wo_val (.sl 3 (List.map rStatus r4.1)) rfl pv_assign ?_
            refine wo_val (.int .i64 r4.2) rfl pv_assign ?_
            refine wo_nil ?_
            refine wr_seq ?_
            refine wr_region ?_
            refine wo_val (.int .i64 many) rfl pv_move ?_
            refine wo_val (.sl 3 (List.map rStatus r3.1)) rfl pv_move ?_
            refine wo_val (.agg (rStatus a)) rfl (pv_load (ld_ptr hI rfl rfl rfl ti24 rfl)) ?_
            refine of_call [(.int .i64 many), (.sl 3 (List.map rStatus r3.1)), (.agg (rStatus a))] rfl rfl rfl rfl ((cp_radar_Add many r3.1 a) _) (fun v _ => wu_pan Try.func7 hI) fun r5 _ => ?_
            refine wo_val (.tup [(.sl 3 (List.map rStatus r5.1)), (.int .i64 r5.2)]) rfl pv_move ?_
            refine wo_val (.sl 3 (List.map rStatus r5.1)) rfl (pv_ext rfl) ?_
            refine wo_val (.int .i64 r5.2) rfl (pv_ext rfl) ?_
            refine wo_val (.sl 3 (List.map rStatus r5.1)) rfl pv_assign ?_
            refine wo_val (.int .i64 r5.2) rfl pv_assign ?_
            refine wo_nil ?_
            refine wr_seq ?_
            refine wr_region ?_
            refine wo_val (.int .i64 many) rfl pv_move ?_
            refine wo_val (.sl 3 (List.map rStatus r4.1)) rfl pv_move ?_
            refine wo_val (.agg (rStatus b)) rfl (pv_load (ld_ptr hI rfl rfl rfl ti24 rfl)) ?_
            refine of_call [(.int .i64 many), (.sl 3 (List.map rStatus r4.1)), (.agg (rStatus b))] rfl rfl rfl rfl ((cp_radar_Add many r4.1 b) _) (fun v _ => wu_pan Try.func7 hI) fun r6 _ => ?_
            refine wo_val (.tup [(.sl 3 (List.map rStatus r6.1)), (.int .i64 r6.2)]) rfl pv_move ?_
            refine wo_val (.sl 3 (List.map rStatus r6.1)) rfl (pv_ext rfl) ?_
            refine wo_val (.int .i64 r6.2) rfl (pv_ext rfl) ?_
            refine wo_val (.sl 3 (List.map rStatus r6.1)) rfl pv_assign ?_
            refine wo_val (.int .i64 r6.2) rfl pv_assign ?_
            refine wo_nil ?_
            refine wr_seq ?_
            refine wr_region ?_
            refine wo_val (.int .i64 r4.2) rfl pv_move ?_
            refine wo_val (.bool (r4.2 == 0)) rfl (pv_bin rfl rfl rfl) ?_
            refine wo_val (.bool (r4.2 == 0)) rfl pv_move ?_
            refine wo_meet 3 [(0, (.int .i64 many)), (13, (.sl 3 (List.map rStatus r4.1))), (15, (.sl 3 (List.map rStatus r5.1))), (17, (.sl 3 (List.map rStatus r6.1))), (18, (.int .i64 r6.2)), (84, (.bool ((r4.2 == 0) && (r5.2 == 0))))] ?_ fun hJ3 => wo_cases (r4.2 == 0) (fun hb7 => ?_) (fun hb7 => ?_)
            · refine wo_val (.bool ((r4.2 == 0) && (r5.2 == 0))) rfl pv_move ?_
              refine wo_meet 3 [(0, (.int .i64 many)), (13, (.sl 3 (List.map rStatus r4.1))), (15, (.sl 3 (List.map rStatus r5.1))), (17, (.sl 3 (List.map rStatus r6.1))), (88, (.bool (((r4.2 == 0) && (r5.2 == 0)) && (r6.2 == 0))))] ?_ fun hJ4 => wo_cases ((r4.2 == 0) && (r5.2 == 0)) (fun hb9 => ?_) (fun hb9 => ?_)
              · refine wo_val (.bool (((r4.2 == 0) && (r5.2 == 0)) && (r6.2 == 0))) rfl pv_move ?_
                refine wo_join 4 ((fun (b1 : Bool) => (if b1 then (ref26_Same r4.1 r6.1).bind fun r8 =>
  R.ok r8 else R.ok false).bind (fun (b2 : Bool) => (if b2 then (radar_Check many r4.1).bind fun r9 =>
  R.ok (r9 == 0) else R.ok false).bind (fun (b3 : Bool) => .ok b3))) : Bool → R Bool) (fun (b1 : Bool) (fr : Nat → AV) (h : AHeap) => fr = frA [(0, (.int .i64 many)), (13, (.sl 3 (List.map rStatus r4.1))), (17, (.sl 3 (List.map rStatus r6.1))), (93, (.bool b1))] ∧ h = hp h0 ids [(some (.rows g 3 [(rStatus a)])), (some (.rows g1 3 [(rStatus b)]))]) ?_ fun hJ5 => of_if1 (fun hb11 => ?_) (fun hb11 => ?_)
                · rintro b1 fr h ⟨rfl, rfl⟩
                  refine wo_val (.bool b1) rfl pv_move ?_
                  refine wo_join 4 ((fun (b2 : Bool) => (if b2 then (radar_Check many r4.1).bind fun r9 =>
  R.ok (r9 == 0) else R.ok false).bind (fun (b3 : Bool) => .ok b3)) : Bool → R Bool) (fun (b2 : Bool) (fr : Nat → AV) (h : AHeap) => fr = frA [(0, (.int .i64 many)), (13, (.sl 3 (List.map rStatus r4.1))), (98, (.bool b2))] ∧ h = hp h0 ids [(some (.rows g 3 [(rStatus a)])), (some (.rows g1 3 [(rStatus b)]))]) ?_ fun hJ6 => of_if1 (fun hb13 => ?_) (fun hb13 => ?_)
                  · rintro b2 fr h ⟨rfl, rfl⟩
                    refine wo_val (.bool b2) rfl pv_move ?_
                    refine wo_join 5 ((fun (b3 : Bool) => .ok b3) : Bool → R Bool) (fun (b3 : Bool) (fr : Nat → AV) (h : AHeap) => fr = frA [(104, (.bool b3))] ∧ h = hp h0 ids [(some (.rows g 3 [(rStatus a)])), (some (.rows g1 3 [(rStatus b)]))]) ?_ fun hJ7 => of_if1 (fun hb15 => ?_) (fun hb15 => ?_)
                    · rintro b3 fr h ⟨rfl, rfl⟩
                      refine wo_val (.bool b3) rfl pv_assign ?_
                      refine wo_nil ?_
                      exact wr_ret (a := b3) (vs := [(.bool b3)]) Try.func7 hI rfl (.same _)
                    · refine wo_valg (tj := 99) (.int .i64 many) rfl (congrArg AV.bool hb15) rfl pv_move ?_
                      refine wo_valg (tj := 99) (.sl 3 (List.map rStatus r4.1)) rfl (congrArg AV.bool hb15) rfl pv_move ?_
                      refine of_call [(.int .i64 many), (.sl 3 (List.map rStatus r4.1))] rfl (wanted_yes (tj := 99) rfl (congrArg AV.bool hb15)) rfl rfl ((cp_radar_Check many r4.1) _) (fun v _ => wu_pan Try.func7 hI) fun r9 _ => ?_
                      refine wo_valg (tj := 99) (.bool (r9 == 0)) rfl (congrArg AV.bool hb15) rfl (pv_bin rfl rfl rfl) ?_
                      refine wo_val (.bool (r9 == 0)) rfl (pv_pick (t := true) (congrArg AV.bool hb15) rfl) ?_
                      refine wo_back1 ?_
                      refine wo_is [(104, (.bool (r9 == 0)))] (.cons rfl .nil) ?_
                      exact hJ7 (r9 == 0) _ _ ⟨rfl, rfl⟩
                    · refine wo_not (tj := 99) (b := false) rfl (congrArg AV.bool hb15) rfl rfl ?_
                      refine wo_not (tj := 99) (b := false) rfl (congrArg AV.bool hb15) rfl rfl ?_
                      refine wo_not (tj := 99) (b := false) rfl (congrArg AV.bool hb15) rfl rfl ?_
                      refine wo_not (tj := 99) (b := false) rfl (congrArg AV.bool hb15) rfl rfl ?_
                      refine wo_val (.bool false) rfl (pv_pick (t := false) (congrArg AV.bool hb15) rfl) ?_
                      refine wo_back1 ?_
                      refine wo_is [(104, (.bool false))] (.cons rfl .nil) ?_
                      exact hJ7 false _ _ ⟨rfl, rfl⟩
                  · refine wo_valg (tj := 94) (.sl 3 (List.map rStatus r4.1)) rfl (congrArg AV.bool hb13) rfl pv_move ?_
                    refine wo_valg (tj := 94) (.sl 3 (List.map rStatus r6.1)) rfl (congrArg AV.bool hb13) rfl pv_move ?_
                    refine of_call [(.sl 3 (List.map rStatus r4.1)), (.sl 3 (List.map rStatus r6.1))] rfl (wanted_yes (tj := 94) rfl (congrArg AV.bool hb13)) rfl rfl ((cp_ref26_Same r4.1 r6.1) _) (fun v _ => wu_pan Try.func7 hI) fun r8 _ => ?_
                    refine wo_val (.bool r8) rfl (pv_pick (t := true) (congrArg AV.bool hb13) rfl) ?_
                    refine wo_back1 ?_
                    refine wo_is [(0, (.int .i64 many)), (13, (.sl 3 (List.map rStatus r4.1))), (98, (.bool r8))] (.cons rfl (.cons rfl (.cons rfl .nil))) ?_
                    exact hJ6 r8 _ _ ⟨rfl, rfl⟩
                  · refine wo_not (tj := 94) (b := false) rfl (congrArg AV.bool hb13) rfl rfl ?_
                    refine wo_not (tj := 94) (b := false) rfl (congrArg AV.bool hb13) rfl rfl ?_
                    refine wo_not (tj := 94) (b := false) rfl (congrArg AV.bool hb13) rfl rfl ?_
                    refine wo_val (.bool false) rfl (pv_pick (t := false) (congrArg AV.bool hb13) rfl) ?_
                    refine wo_back1 ?_
                    refine wo_is [(0, (.int .i64 many)), (13, (.sl 3 (List.map rStatus r4.1))), (98, (.bool false))] (.cons rfl (.cons rfl (.cons rfl .nil))) ?_
                    exact hJ6 false _ _ ⟨rfl, rfl⟩
                · refine wo_valg (tj := 89) (.sl 3 (List.map rStatus r4.1)) rfl (congrArg AV.bool hb11) rfl pv_move ?_
                  refine wo_valg (tj := 89) (.sl 3 (List.map rStatus r5.1)) rfl (congrArg AV.bool hb11) rfl pv_move ?_
                  refine of_call [(.sl 3 (List.map rStatus r4.1)), (.sl 3 (List.map rStatus r5.1))] rfl (wanted_yes (tj := 89) rfl (congrArg AV.bool hb11)) rfl rfl ((cp_ref26_Same r4.1 r5.1) _) (fun v _ => wu_pan Try.func7 hI) fun r7 _ => ?_
                  refine wo_val (.bool r7) rfl (pv_pick (t := true) (congrArg AV.bool hb11) rfl) ?_
                  refine wo_back1 ?_
                  refine wo_is [(0, (.int .i64 many)), (13, (.sl 3 (List.map rStatus r4.1))), (17, (.sl 3 (List.map rStatus r6.1))), (93, (.bool r7))] (.cons rfl (.cons rfl (.cons rfl (.cons rfl .nil)))) ?_
                  exact hJ5 r7 _ _ ⟨rfl, rfl⟩
                · refine wo_not (tj := 89) (b := false) rfl (congrArg AV.bool hb11) rfl rfl ?_
                  refine wo_not (tj := 89) (b := false) rfl (congrArg AV.bool hb11) rfl rfl ?_
                  refine wo_not (tj := 89) (b := false) rfl (congrArg AV.bool hb11) rfl rfl ?_
                  refine wo_val (.bool false) rfl (pv_pick (t := false) (congrArg AV.bool hb11) rfl) ?_
                  refine wo_back1 ?_
                  refine wo_is [(0, (.int .i64 many)), (13, (.sl 3 (List.map rStatus r4.1))), (17, (.sl 3 (List.map rStatus r6.1))), (93, (.bool false))] (.cons rfl (.cons rfl (.cons rfl (.cons rfl .nil)))) ?_
                  exact hJ5 false _ _ ⟨rfl, rfl⟩
              · refine wo_valg (tj := 85) (.int .i64 r6.2) rfl (congrArg AV.bool hb9) rfl pv_move ?_
                refine wo_valg (tj := 85) (.bool (r6.2 == 0)) rfl (congrArg AV.bool hb9) rfl (pv_bin rfl rfl rfl) ?_
                refine wo_val (.bool (r6.2 == 0)) rfl (pv_pick (t := true) (congrArg AV.bool hb9) rfl) ?_
                exact wo_is [(0, (.int .i64 many)), (13, (.sl 3 (List.map rStatus r4.1))), (15, (.sl 3 (List.map rStatus r5.1))), (17, (.sl 3 (List.map rStatus r6.1))), (88, (.bool (((r4.2 == 0) && (r5.2 == 0)) && (r6.2 == 0))))] (.cons rfl (.cons rfl (.cons rfl (.cons rfl (.cons (and_t hb9) .nil))))) hJ4
              · refine wo_not (tj := 85) (b := false) rfl (congrArg AV.bool hb9) rfl rfl ?_
                refine wo_not (tj := 85) (b := false) rfl (congrArg AV.bool hb9) rfl rfl ?_
                refine wo_val (.bool false) rfl (pv_pick (t := false) (congrArg AV.bool hb9) rfl) ?_
                exact wo_is [(0, (.int .i64 many)), (13, (.sl 3 (List.map rStatus r4.1))), (15, (.sl 3 (List.map rStatus r5.1))), (17, (.sl 3 (List.map rStatus r6.1))), (88, (.bool (((r4.2 == 0) && (r5.2 == 0)) && (r6.2 == 0))))] (.cons rfl (.cons rfl (.cons rfl (.cons rfl (.cons (and_f hb9) .nil))))) hJ4
            · refine wo_valg (tj := 81) (.int .i64 r5.2) rfl (congrArg AV.bool hb7) rfl pv_move ?_
              refine wo_valg (tj := 81) (.bool (r5.2 == 0)) rfl (congrArg AV.bool hb7) rfl (pv_bin rfl rfl rfl) ?_
              refine wo_val (.bool (r5.2 == 0)) rfl (pv_pick (t := true) (congrArg AV.bool hb7) rfl) ?_
              exact wo_is [(0, (.int .i64 many)), (13, (.sl 3 (List.map rStatus r4.1))), (15, (.sl 3 (List.map rStatus r5.1))), (17, (.sl 3 (List.map rStatus r6.1))), (18, (.int .i64 r6.2)), (84, (.bool ((r4.2 == 0) && (r5.2 == 0))))] (.cons rfl (.cons rfl (.cons rfl (.cons rfl (.cons rfl (.cons (and_t hb7) .nil)))))) hJ3
            · refine wo_not (tj := 81) (b := false) rfl (congrArg AV.bool hb7) rfl rfl ?_
              refine wo_not (tj := 81) (b := false) rfl (congrArg AV.bool hb7) rfl rfl ?_
              refine wo_val (.bool false) rfl (pv_pick (t := false) (congrArg AV.bool hb7) rfl) ?_
              exact wo_is [(0, (.int .i64 many)), (13, (.sl 3 (List.map rStatus r4.1))), (15, (.sl 3 (List.map rStatus r5.1))), (17, (.sl 3 (List.map rStatus r6.1))), (18, (.int .i64 r6.2)), (84, (.bool ((r4.2 == 0) && (r5.2 == 0))))] (.cons rfl (.cons rfl (.cons rfl (.cons rfl (.cons rfl (.cons (and_f hb7) .nil)))))) hJ3
        · refine wo_not (tj := 54) (b := true) rfl (congrArg AV.bool hb5) rfl rfl ?_
          refine wo_not (tj := 54) (b := true) rfl (congrArg AV.bool hb5) rfl rfl ?_
          refine wo_val (.bool true) rfl (pv_pick (t := true) (congrArg AV.bool hb5) rfl) ?_
          exact wo_is [(0, (.int .i64 many)), (6, (.ptr (ix ids 0) g 0 0)), (7, (.ptr (ix ids 1) g1 0 0)), (9, (.sl 3 (List.map rStatus r2.1))), (11, (.sl 3 (List.map rStatus r3.1))), (57, (.bool ((r2.2 != 0) || (r3.2 != 0))))] (.cons rfl (.cons rfl (.cons rfl (.cons rfl (.cons rfl (.cons (or_t hb5) .nil)))))) hJ2
        · refine wo_valg (tj := 54) (.int .i64 r3.2) rfl (congrArg AV.bool hb5) rfl pv_move ?_
          refine wo_valg (tj := 54) (.bool (r3.2 != 0)) rfl (congrArg AV.bool hb5) rfl (pv_bin rfl rfl rfl) ?_
          refine wo_val (.bool (r3.2 != 0)) rfl (pv_pick (t := false) (congrArg AV.bool hb5) rfl) ?_
          exact wo_is [(0, (.int .i64 many)), (6, (.ptr (ix ids 0) g 0 0)), (7, (.ptr (ix ids 1) g1 0 0)), (9, (.sl 3 (List.map rStatus r2.1))), (11, (.sl 3 (List.map rStatus r3.1))), (57, (.bool ((r2.2 != 0) || (r3.2 != 0))))] (.cons rfl (.cons rfl (.cons rfl (.cons rfl (.cons rfl (.cons (or_f hb5) .nil)))))) hJ2
    · refine wo_not (tj := 24) (b := true) rfl (congrArg AV.bool hb1) rfl rfl ?_
      refine wo_not (tj := 24) (b := true) rfl (congrArg AV.bool hb1) rfl rfl ?_
      refine wo_not (tj := 24) (b := true) rfl (congrArg AV.bool hb1) rfl rfl ?_
      refine wo_not (tj := 24) (b := true) rfl (congrArg AV.bool hb1) rfl rfl ?_
      refine wo_not (tj := 24) (b := true) rfl (congrArg AV.bool hb1) rfl rfl ?_
      refine wo_not (tj := 24) (b := true) rfl (congrArg AV.bool hb1) rfl rfl ?_
      refine wo_notu (tj := 30) rfl rfl rfl ?_
      refine wo_notu (tj := 30) rfl rfl rfl ?_
      refine wo_notu (tj := 30) rfl rfl rfl ?_
      refine wo_notu (tj := 30) rfl rfl rfl ?_
      refine wo_notu (tj := 30) rfl rfl rfl ?_
      refine wo_not (tj := 24) (b := true) rfl (congrArg AV.bool hb1) rfl rfl ?_
      refine wo_val (.bool true) rfl (pv_pick (t := true) (congrArg AV.bool hb1) rfl) ?_
      exact wo_is [(0, (.int .i64 many)), (1, (.sl 3 (List.map rStatus l))), (6, (.ptr (ix ids 0) g 0 0)), (7, (.ptr (ix ids 1) g1 0 0)), (37, (.bool ((!r1) || ((a.Station == b.Station) && (a.From == b.From)))))] (.cons rfl (.cons rfl (.cons rfl (.cons rfl (.cons (or_t hb1) .nil))))) hJ
    · refine wo_valg (tj := 24) (.ptr (ix ids 0) g 0 0) rfl (congrArg AV.bool hb1) rfl (pv_fa (fa_ptr (c := 0) (off := 0) (i := 0) ti24 rfl ti3 rfl)) ?_
      refine wo_valg (tj := 24) (.int .i64 a.Station) rfl (congrArg AV.bool hb1) rfl (pv_load (ld_ptr hI rfl rfl rfl ti3 rfl)) ?_
      refine wo_valg (tj := 24) (.ptr (ix ids 1) g1 0 0) rfl (congrArg AV.bool hb1) rfl (pv_fa (fa_ptr (c := 0) (off := 0) (i := 0) ti24 rfl ti3 rfl)) ?_
      refine wo_valg (tj := 24) (.int .i64 b.Station) rfl (congrArg AV.bool hb1) rfl (pv_load (ld_ptr hI rfl rfl rfl ti3 rfl)) ?_
      refine wo_valg (tj := 24) (.bool (a.Station == b.Station)) rfl (congrArg AV.bool hb1) rfl (pv_bin rfl rfl rfl) ?_
      refine wo_valg (tj := 24) (.bool (a.Station == b.Station)) rfl (congrArg AV.bool hb1) rfl pv_move ?_
      refine wo_meet 6 [(0, (.int .i64 many)), (1, (.sl 3 (List.map rStatus l))), (6, (.ptr (ix ids 0) g 0 0)), (7, (.ptr (ix ids 1) g1 0 0)), (24, (.bool (!r1))), (36, (.bool ((a.Station == b.Station) && (a.From == b.From))))] ?_ fun hJ1 => wo_cases (a.Station == b.Station) (fun hb3 => ?_) (fun hb3 => ?_)
      · refine wo_val (.bool ((a.Station == b.Station) && (a.From == b.From))) rfl (pv_pick (t := false) (congrArg AV.bool hb1) rfl) ?_
        exact wo_is [(0, (.int .i64 many)), (1, (.sl 3 (List.map rStatus l))), (6, (.ptr (ix ids 0) g 0 0)), (7, (.ptr (ix ids 1) g1 0 0)), (37, (.bool ((!r1) || ((a.Station == b.Station) && (a.From == b.From)))))] (.cons rfl (.cons rfl (.cons rfl (.cons rfl (.cons (or_f hb1) .nil))))) hJ
      · refine wo_valg (tj := 30) (.ptr (ix ids 0) g 0 1) rfl (congrArg AV.bool hb3) rfl (pv_fa (fa_ptr (c := 0) (off := 1) (i := 1) ti24 rfl ti3 rfl)) ?_
        refine wo_valg (tj := 30) (.int .i64 a.From) rfl (congrArg AV.bool hb3) rfl (pv_load (ld_ptr hI rfl rfl rfl ti3 rfl)) ?_
        refine wo_valg (tj := 30) (.ptr (ix ids 1) g1 0 1) rfl (congrArg AV.bool hb3) rfl (pv_fa (fa_ptr (c := 0) (off := 1) (i := 1) ti24 rfl ti3 rfl)) ?_
        refine wo_valg (tj := 30) (.int .i64 b.From) rfl (congrArg AV.bool hb3) rfl (pv_load (ld_ptr hI rfl rfl rfl ti3 rfl)) ?_
        refine wo_valg (tj := 30) (.bool (a.From == b.From)) rfl (congrArg AV.bool hb3) rfl (pv_bin rfl rfl rfl) ?_
        refine wo_valg (tj := 24) (.bool (a.From == b.From)) rfl (congrArg AV.bool hb1) rfl (pv_pick (t := true) (congrArg AV.bool hb3) rfl) ?_
        exact wo_is [(0, (.int .i64 many)), (1, (.sl 3 (List.map rStatus l))), (6, (.ptr (ix ids 0) g 0 0)), (7, (.ptr (ix ids 1) g1 0 0)), (24, (.bool (!r1))), (36, (.bool ((a.Station == b.Station) && (a.From == b.From))))] (.cons rfl (.cons rfl (.cons rfl (.cons rfl (.cons rfl (.cons (and_t hb3) .nil)))))) hJ1
      · refine wo_not (tj := 30) (b := false) rfl (congrArg AV.bool hb3) rfl rfl ?_
        refine wo_not (tj := 30) (b := false) rfl (congrArg AV.bool hb3) rfl rfl ?_
        refine wo_not (tj := 30) (b := false) rfl (congrArg AV.bool hb3) rfl rfl ?_
        refine wo_not (tj := 30) (b := false) rfl (congrArg AV.bool hb3) rfl rfl ?_
        refine wo_not (tj := 30) (b := false) rfl (congrArg AV.bool hb3) rfl rfl ?_
        refine wo_valg (tj := 24) (.bool false) rfl (congrArg AV.bool hb1) rfl (pv_pick (t := false) (congrArg AV.bool hb3) rfl) ?_
        exact wo_is [(0, (.int .i64 many)), (1, (.sl 3 (List.map rStatus l))), (6, (.ptr (ix ids 0) g 0 0)), (7, (.ptr (ix ids 1) g1 0 0)), (24, (.bool (!r1))), (36, (.bool ((a.Station == b.Station) && (a.From == b.From))))] (.cons rfl (.cons rfl (.cons rfl (.cons rfl (.cons rfl (.cons (and_f hb3) .nil)))))) hJ1
  · refine wr_seq ?_
    refine wr_region ?_
    refine wo_val (.bool false) rfl pv_assign ?_
    refine wo_nil ?_
    exact wr_ret (a := false) (vs := [(.bool false)]) Try.func7 hI rfl (.same _)

theorem cp_hours_Has_c1 (s : Span) (b : Int) : CP Try.prog 32 [(.agg (rSpan s)), (.cp [(.int .i64 b)] 0)] (hours_Has_c1 s b) (fun (x : Bool) => (AV.bool x)) := by
  refine cp_intro (n := 14) 1 Try.func32 rfl (by decide) rfl rfl fun h0 ids hI => ?_
  refine wr_in (wr_mod (hours_Has_c1.eq_1 _ _) ?_)
  refine wr_seq ?_
  refine wr_region ?_
  refine wo_box (v := (.agg (rSpan s))) (j := 0) hI rfl rfl rfl rfl rfl rfl rfl fun g => ?_
  refine wo_val (.bool false) rfl pv_assign ?_
  refine wo_nil ?_
  refine wr_hp [(some (.rows g 2 [(rSpan s)]))] rfl ?_
  refine wr_seq ?_
  refine wr_region ?_
  refine wo_val (.ptr (ix ids 0) g 0 0) rfl (pv_fa (fa_ptr (c := 0) (off := 0) (i := 0) ti52 rfl ti3 rfl)) ?_
  refine wo_val (.int .i64 s.From) rfl (pv_load (ld_ptr hI rfl rfl rfl ti3 rfl)) ?_
  refine wo_val (.int .i64 b) rfl (pv_load (ld_cp ti3 rfl)) ?_
  refine wo_val (.bool (decide (s.From ≤ b))) rfl (pv_bin rfl rfl rfl) ?_
  refine wo_val (.bool (decide (s.From ≤ b))) rfl pv_move ?_
  refine wo_meet 5 [(13, (.bool ((decide (s.From ≤ b)) && (decide (b < s.To)))))] ?_ fun hJ => wo_cases (decide (s.From ≤ b)) (fun hb1 => ?_) (fun hb1 => ?_)
  · refine wo_val (.bool ((decide (s.From ≤ b)) && (decide (b < s.To)))) rfl pv_assign ?_
    refine wo_nil ?_
    exact wr_ret (a := ((decide (s.From ≤ b)) && (decide (b < s.To)))) (vs := [(.bool ((decide (s.From ≤ b)) && (decide (b < s.To))))]) Try.func32 hI rfl (.same _)
  · refine wo_valg (tj := 8) (.int .i64 b) rfl (congrArg AV.bool hb1) rfl (pv_load (ld_cp ti3 rfl)) ?_
    refine wo_valg (tj := 8) (.ptr (ix ids 0) g 0 1) rfl (congrArg AV.bool hb1) rfl (pv_fa (fa_ptr (c := 0) (off := 1) (i := 1) ti52 rfl ti3 rfl)) ?_
    refine wo_valg (tj := 8) (.int .i64 s.To) rfl (congrArg AV.bool hb1) rfl (pv_load (ld_ptr hI rfl rfl rfl ti3 rfl)) ?_
    refine wo_valg (tj := 8) (.bool (decide (b < s.To))) rfl (congrArg AV.bool hb1) rfl (pv_bin rfl rfl rfl) ?_
    refine wo_val (.bool (decide (b < s.To))) rfl (pv_pick (t := true) (congrArg AV.bool hb1) rfl) ?_
    exact wo_is [(13, (.bool ((decide (s.From ≤ b)) && (decide (b < s.To)))))] (.cons (and_t hb1) .nil) hJ
  · refine wo_not (tj := 8) (b := false) rfl (congrArg AV.bool hb1) rfl rfl ?_
    refine wo_not (tj := 8) (b := false) rfl (congrArg AV.bool hb1) rfl rfl ?_
    refine wo_not (tj := 8) (b := false) rfl (congrArg AV.bool hb1) rfl rfl ?_
    refine wo_not (tj := 8) (b := false) rfl (congrArg AV.bool hb1) rfl rfl ?_
    refine wo_val (.bool false) rfl (pv_pick (t := false) (congrArg AV.bool hb1) rfl) ?_
    exact wo_is [(13, (.bool ((decide (s.From ≤ b)) && (decide (b < s.To)))))] (.cons (and_f hb1) .nil) hJ

theorem cg_slices_IndexFunc_Span_c1 (s : (List Span)) (s1 : Int) (h0 : AHeap) (o0 : Nat) (g : Nat) (hI0 : Ids h0 [o0] 1) : slices_IndexFunc_Span_c1 s s1 ≠ .bad → ACalls Try.prog 39 [(.sl 2 (List.map rSpan s)), (.func (.func 32) [] [(.ptr o0 g 0 0)])] (hp h0 [o0] [some (.rows g 1 [[(.int .i64 s1)]])]) (AnsG (fun a_ v h' => v = (.int .i64 a_) ∧ h' = hp h0 [o0] [some (.rows g 1 [[(.int .i64 s1)]])]) h0 (slices_IndexFunc_Span_c1 s s1)) := by
  refine cpg_intro (n := 19) 0 Try.func39 rfl (by decide) rfl rfl hI0 rfl fun ids he hI => ?_
  clear hI0
  obtain rfl : ix ids 0 = o0 := he 0 rfl
  clear he
  refine wr_in (wr_mod (slices_IndexFunc_Span_c1.eq_1 _ _) ?_)
  refine wr_seq ?_
  refine wr_region ?_
  refine wo_val (.int .i64 0) rfl pv_assign ?_
  refine wo_nil ?_
  refine wr_seq ?_
  refine wr_seq ?_
  refine wr_region ?_
  refine wo_val (.sl 2 (List.map rSpan s)) rfl pv_move ?_
  refine wo_val (.int .i64 (s.length : Int)) rfl (pv_len (len_sl ti46)) ?_
  refine wo_val (.int .i64 0) rfl pv_move ?_
  refine wo_nil ?_
  refine wr_block ?_
  refine wr_is [(0, (.sl 2 (List.map rSpan s))), (1, (.func (.func 32) [] [(.ptr (ix ids 0) g 0 0)])), (7, (.int .i64 (s.length : Int))), (8, (.int .i64 0))] (.cons rfl (.cons rfl (.cons rfl (.cons rfl .nil)))) ?_
  refine wf_each' (P := Try.prog) s (fun j a => fun _ => slices_IndexFunc_Span_c1_b1 s1 j a) ((alt (fun _ => .ok (-1)) (fun r => .ok r)) : (Unit ⊕ Int) → R Int)
    (fun j => fun _ => fun (fr : Nat → AV) (h : AHeap) => fr = frA [(0, (.sl 2 (List.map rSpan s))), (1, (.func (.func 32) [] [(.ptr (ix ids 0) g 0 0)])), (7, (.int .i64 (s.length : Int))), (8, (.int .i64 (j : Int)))] ∧ h = hp h0 ids [(some (.rows g 1 [[(.int .i64 s1)]]))]) () ?_ ?_ ?_
  · exact ⟨rfl, rfl⟩
  · rintro j a ha W hW _ fr h ⟨rfl, rfl⟩
    refine wr_mod (m' := slices_IndexFunc_Span_c1_b1 s1 j a) rfl (wr_mod (slices_IndexFunc_Span_c1_b1.eq_1 _ _ _) ?_)
    refine wr_seq ?_
    refine wr_region ?_
    refine wo_val (.bool (decide ((j : Int) < (s.length : Int)))) rfl (pv_bin rfl rfl rfl) ?_
    refine wo_nil ?_
    refine wr_seq ?_
    refine wr_lim (t := 0) (L := s) rfl fun hlim => ?_
    refine wr_condT rfl (Int.ofNat_lt.2 (lt_of_get ha)) ?_
    refine wr_skip ?_
    refine wr_seq ?_
    refine wr_block ?_
    refine wr_seq ?_
    refine wr_region ?_
    refine wo_val (.int .i64 (j : Int)) rfl pv_move ?_
    refine wo_val (.int .i64 (j : Int)) rfl pv_assign ?_
    refine wo_nil ?_
    refine wr_seq ?_
    refine wr_region ?_
    refine wo_val (.func (.func 32) [] [(.ptr (ix ids 0) g 0 0)]) rfl pv_move ?_
    refine wo_val (.sl 2 (List.map rSpan s)) rfl pv_move ?_
    refine wo_val (.int .i64 (j : Int)) rfl pv_move ?_
    refine wo_val (.cp (rSpan a) 0) rfl (pv_ixa (ixa_nat ti46 ti52 rfl ha)) ?_
    refine wo_val (.agg (rSpan a)) rfl (pv_load (ld_cp ti52 rfl)) ?_
    refine of_call [(.agg (rSpan a)), (.ptr (ix ids 0) g 0 0)] rfl rfl rfl rfl (CP.lend (cp_hours_Has_c1 a s1) (LF.lfz (.cons (.same _) (.cons (.ptrL (hI.at rfl rfl) rfl rfl (lf_refl _)) .nil))) (fun _ _ => (.bool _))) (fun v _ => wu_panG (K := 1) (N := 0) Try.func39 hI) fun r _ => ?_
    refine wo_nil ?_
    refine wf_iteb rfl (fun hc => ?_) (fun hc => ?_)
    · refine wr_seq ?_
      refine wr_region ?_
      refine wo_val (.int .i64 (j : Int)) rfl pv_move ?_
      refine wo_val (.int .i64 (j : Int)) rfl pv_assign ?_
      refine wo_nil ?_
      refine wx_each ?_
      refine w_altr ?_
      exact wr_retG (K := 1) (N := 0) (a := (j : Int)) (vs := [(.int .i64 (j : Int))]) [some (.rows g 1 [[(.int .i64 s1)]])] Try.func39 hI rfl rfl rfl (.keep .nil) (.same _) ⟨rfl, rfl⟩
    · refine wr_skip ?_
      refine wr_inBlock ?_
      refine wr_region ?_
      refine wo_val (.int .i64 (IntKind.wrap .i64 ((j : Int) + 1))) rfl (pv_bin rfl rfl rfl) ?_
      refine wo_val (.int .i64 (IntKind.wrap .i64 ((j : Int) + 1))) rfl pv_move ?_
      refine wo_nil ?_
      refine wr_is [(0, (.sl 2 (List.map rSpan s))), (1, (.func (.func 32) [] [(.ptr (ix ids 0) g 0 0)])), (7, (.int .i64 (s.length : Int))), (8, (.int .i64 ((j + 1 : Nat) : Int)))] (.cons rfl (.cons rfl (.cons rfl (.cons (inc_ok (lt_of_get ha) hlim) .nil)))) ?_
      refine wb_each ?_
      refine hW () _ _ ?_
      exact ⟨rfl, rfl⟩
  · rintro _ fr h ⟨rfl, rfl⟩
    refine wr_mod (alt_inl _ _ _) ?_
    refine wr_seq ?_
    refine wr_region ?_
    refine wo_val (.bool (decide ((s.length : Int) < (s.length : Int)))) rfl (pv_bin rfl rfl rfl) ?_
    refine wo_nil ?_
    refine wr_seq ?_
    refine wr_condF rfl (Int.lt_irrefl _) ?_
    refine wr_exit rfl ?_
    refine wr_seq ?_
    refine wr_region ?_
    refine wo_val (.int .i64 (-1)) rfl pv_assign ?_
    refine wo_nil ?_
    exact wr_retG (K := 1) (N := 0) (a := (-1)) (vs := [(.int .i64 (-1))]) [some (.rows g 1 [[(.int .i64 s1)]])] Try.func39 hI rfl rfl rfl (.keep .nil) (.same _) ⟨rfl, rfl⟩

theorem cg_slices_ContainsFunc_Span_c1 (s : (List Span)) (s1 : Int) (h0 : AHeap) (o0 : Nat) (g : Nat) (hI0 : Ids h0 [o0] 1) : slices_ContainsFunc_Span_c1 s s1 ≠ .bad → ACalls Try.prog 31 [(.sl 2 (List.map rSpan s)), (.func (.func 32) [] [(.ptr o0 g 0 0)])] (hp h0 [o0] [some (.rows g 1 [[(.int .i64 s1)]])]) (AnsG (fun a_ v h' => v = (.bool a_) ∧ h' = hp h0 [o0] [some (.rows g 1 [[(.int .i64 s1)]])]) h0 (slices_ContainsFunc_Span_c1 s s1)) := by
  refine cpg_intro (n := 9) 0 Try.func31 rfl (by decide) rfl rfl hI0 rfl fun ids he hI => ?_
  clear hI0
  obtain rfl : ix ids 0 = o0 := he 0 rfl
  clear he
  refine wr_in (wr_mod (slices_ContainsFunc_Span_c1.eq_1 _ _) ?_)
  refine wr_seq ?_
  refine wr_region ?_
  refine wo_val (.bool false) rfl pv_assign ?_
  refine wo_nil ?_
  refine wr_seq ?_
  refine wr_region ?_
  refine wo_val (.sl 2 (List.map rSpan s)) rfl pv_move ?_
  refine wo_val (.func (.func 32) [] [(.ptr (ix ids 0) g 0 0)]) rfl pv_move ?_
  refine of_callG [0] hI rfl rfl (cg_slices_IndexFunc_Span_c1 s s1 _ (ix ids 0) g (by exact hI.sub' rfl rfl)) rfl rfl rfl rfl rfl rfl (fun v _ => wu_panG (K := 1) (N := 0) Try.func31 hI) ?_
  rintro r _ _ _ ⟨rfl, rfl⟩
  refine wo_putH [0] [some (.rows g 1 [[(.int .i64 s1)]])] hI rfl rfl rfl rfl ?_
  refine wo_put1 ?_
  refine wo_val (.bool (decide (r ≥ 0))) rfl (pv_bin rfl rfl rfl) ?_
  refine wo_val (.bool (decide (r ≥ 0))) rfl pv_assign ?_
  refine wo_nil ?_
  exact wr_retG (K := 1) (N := 0) (a := (decide (r ≥ 0))) (vs := [(.bool (decide (r ≥ 0)))]) [some (.rows g 1 [[(.int .i64 s1)]])] Try.func31 hI rfl rfl rfl (.keep .nil) (.same _) ⟨rfl, rfl⟩

theorem cp_hours_Has (l : (List Span)) (minute : Int) : CP Try.prog 18 [(.sl 2 (List.map rSpan l)), (.int .i64 minute)] (hours_Has l minute) (fun (x : Bool) => (AV.bool x)) := by
  refine cp_intro (n := 16) 1 Try.func18 rfl (by decide) rfl rfl fun h0 ids hI => ?_
  refine wr_in (wr_mod (hours_Has.eq_1 _ _) ?_)
  refine wr_seq ?_
  refine wr_region ?_
  refine wo_box (v := (.int .i64 minute)) (j := 0) hI rfl rfl rfl rfl rfl rfl rfl fun g => ?_
  refine wo_val (.bool false) rfl pv_assign ?_
  refine wo_nil ?_
  refine wr_hp [(some (.rows g 1 [[(.int .i64 minute)]]))] rfl ?_
  refine wr_seq ?_
  refine wr_region ?_
  refine wo_val (.int .i64 minute) rfl (pv_load (ld_ptr hI rfl rfl rfl ti3 rfl)) ?_
  refine wo_val (.bool (decide (minute ≥ 0))) rfl (pv_bin rfl rfl rfl) ?_
  refine wo_val (.bool (decide (minute ≥ 0))) rfl pv_move ?_
  refine wo_meet 3 [(0, (.sl 2 (List.map rSpan l))), (3, (.ptr (ix ids 0) g 0 0)), (10, (.bool ((decide (minute ≥ 0)) && (decide (minute < 1440)))))] ?_ fun hJ => wo_cases (decide (minute ≥ 0)) (fun hb1 => ?_) (fun hb1 => ?_)
  · refine wo_val (.bool ((decide (minute ≥ 0)) && (decide (minute < 1440)))) rfl pv_move ?_
    refine wo_join 4 ((fun (b : Bool) => .ok b) : Bool → R Bool) (fun (b : Bool) (fr : Nat → AV) (h : AHeap) => fr = frA [(15, (.bool b))] ∧ h = hp h0 ids [(some (.rows g 1 [[(.int .i64 minute)]]))]) ?_ fun hJ1 => of_if1 (fun hb3 => ?_) (fun hb3 => ?_)
    · rintro b fr h ⟨rfl, rfl⟩
      refine wo_val (.bool b) rfl pv_assign ?_
      refine wo_nil ?_
      exact wr_ret (a := b) (vs := [(.bool b)]) Try.func18 hI rfl (.same _)
    · refine wo_valg (tj := 11) (.sl 2 (List.map rSpan l)) rfl (congrArg AV.bool hb3) rfl pv_move ?_
      refine wo_valg (tj := 11) (.func (.func 32) [] [(.ptr (ix ids 0) g 0 0)]) rfl (congrArg AV.bool hb3) rfl pv_func ?_
      refine of_callG [0] hI rfl rfl (cg_slices_ContainsFunc_Span_c1 l minute _ (ix ids 0) g (by exact hI.sub' rfl rfl)) rfl rfl rfl (wanted_yes (tj := 11) rfl (congrArg AV.bool hb3)) rfl rfl (fun v _ => wu_pan Try.func18 hI) ?_
      rintro r _ _ _ ⟨rfl, rfl⟩
      refine wo_putH [0] [some (.rows g 1 [[(.int .i64 minute)]])] hI rfl rfl rfl rfl ?_
      refine wo_put1 ?_
      refine wo_val (.bool r) rfl (pv_pick (t := true) (congrArg AV.bool hb3) rfl) ?_
      refine wo_back1 ?_
      refine wo_is [(15, (.bool r))] (.cons rfl .nil) ?_
      exact hJ1 r _ _ ⟨rfl, rfl⟩
    · refine wo_not (tj := 11) (b := false) rfl (congrArg AV.bool hb3) rfl rfl ?_
      refine wo_not (tj := 11) (b := false) rfl (congrArg AV.bool hb3) rfl rfl ?_
      refine wo_not (tj := 11) (b := false) rfl (congrArg AV.bool hb3) rfl rfl ?_
      refine wo_val (.bool false) rfl (pv_pick (t := false) (congrArg AV.bool hb3) rfl) ?_
      refine wo_back1 ?_
      refine wo_is [(15, (.bool false))] (.cons rfl .nil) ?_
      exact hJ1 false _ _ ⟨rfl, rfl⟩
  · refine wo_valg (tj := 7) (.int .i64 minute) rfl (congrArg AV.bool hb1) rfl (pv_load (ld_ptr hI rfl rfl rfl ti3 rfl)) ?_
    refine wo_valg (tj := 7) (.bool (decide (minute < 1440))) rfl (congrArg AV.bool hb1) rfl (pv_bin rfl rfl rfl) ?_
    refine wo_val (.bool (decide (minute < 1440))) rfl (pv_pick (t := true) (congrArg AV.bool hb1) rfl) ?_
    exact wo_is [(0, (.sl 2 (List.map rSpan l))), (3, (.ptr (ix ids 0) g 0 0)), (10, (.bool ((decide (minute ≥ 0)) && (decide (minute < 1440)))))] (.cons rfl (.cons rfl (.cons (and_t hb1) .nil))) hJ
  · refine wo_not (tj := 7) (b := false) rfl (congrArg AV.bool hb1) rfl rfl ?_
    refine wo_not (tj := 7) (b := false) rfl (congrArg AV.bool hb1) rfl rfl ?_
    refine wo_val (.bool false) rfl (pv_pick (t := false) (congrArg AV.bool hb1) rfl) ?_
    exact wo_is [(0, (.sl 2 (List.map rSpan l))), (3, (.ptr (ix ids 0) g 0 0)), (10, (.bool ((decide (minute ≥ 0)) && (decide (minute < 1440)))))] (.cons rfl (.cons rfl (.cons (and_f hb1) .nil))) hJ

theorem cp_law26_RadarLost (volumes : Int) (s : (List Station)) (l : (List Status)) (minute : Int) : CP Try.prog 8 [(.int .i64 volumes), (.sl 3 (List.map rStation s)), (.sl 3 (List.map rStatus l)), (.int .i64 minute)] (law26_RadarLost volumes s l minute) (fun (x : Bool) => (AV.bool x)) := by
  refine cp_intro (n := 56) 0 Try.func8 rfl (by decide) rfl rfl fun h0 ids hI => ?_
  refine wr_in (wr_mod (law26_RadarLost.eq_1 _ _ _ _) ?_)
  refine wr_seq ?_
  refine wr_region ?_
  refine wo_val (.bool false) rfl pv_assign ?_
  refine wo_nil ?_
  refine wr_seq ?_
  refine wr_seq ?_
  refine wr_region ?_
  refine of_call [] rfl rfl rfl rfl ((cp_law26_sane) _) (fun v _ => wu_pan Try.func8 hI) fun r _ => ?_
  refine wo_val (.bool (!r)) rfl (pv_un rfl) ?_
  refine wo_nil ?_
  refine wf_itebn rfl (fun hc => ?_) (fun hc => ?_)
  · refine wr_skip ?_
    refine wr_seq ?_
    refine wr_seq ?_
    refine wr_region ?_
    refine wo_val (.sl 3 (List.map rStation s)) rfl pv_move ?_
    refine wo_val (.sl 3 (List.map rStatus l)) rfl pv_move ?_
    refine of_call [(.sl 3 (List.map rStation s)), (.sl 3 (List.map rStatus l))] rfl rfl rfl rfl ((cp_ref26_Few s l) _) (fun v _ => wu_pan Try.func8 hI) fun r1 _ => ?_
    refine wo_val (.bool (!r1)) rfl (pv_un rfl) ?_
    refine wo_val (.bool (!r1)) rfl pv_move ?_
    refine wo_meet 3 [(0, (.int .i64 volumes)), (1, (.sl 3 (List.map rStation s))), (2, (.sl 3 (List.map rStatus l))), (3, (.int .i64 minute)), (22, (.bool ((!r1) || (decide (volumes > 6)))))] ?_ fun hJ => wo_cases (!r1) (fun hb1 => ?_) (fun hb1 => ?_)
    · refine wo_nil ?_
      refine wf_iteb rfl (fun hc1 => ?_) (fun hc1 => ?_)
      · refine wr_seq ?_
        refine wr_region ?_
        refine wo_val (.bool true) rfl pv_assign ?_
        refine wo_nil ?_
        exact wr_ret (a := true) (vs := [(.bool true)]) Try.func8 hI rfl (.same _)
      · refine wr_skip ?_
        refine wr_seq ?_
        refine wr_region ?_
        refine wo_val (.int .i64 volumes) rfl pv_move ?_
        refine wo_val (.sl 3 (List.map rStation s)) rfl pv_move ?_
        refine wo_val (.sl 3 (List.map rStatus l)) rfl pv_move ?_
        refine wo_val (.int .i64 minute) rfl pv_move ?_
        refine of_call [(.int .i64 volumes), (.sl 3 (List.map rStation s)), (.sl 3 (List.map rStatus l)), (.int .i64 minute)] rfl rfl rfl rfl ((cp_radar_Seen volumes s l minute) _) (fun v _ => wu_pan Try.func8 hI) fun r2 _ => ?_
        refine wo_val (.tup [(.sl 1 (List.map rB r2.1)), (.int .i64 r2.2)]) rfl pv_move ?_
        refine wo_val (.sl 1 (List.map rB r2.1)) rfl (pv_ext rfl) ?_
        refine wo_val (.int .i64 r2.2) rfl (pv_ext rfl) ?_
        refine wo_val (.sl 1 (List.map rB r2.1)) rfl pv_assign ?_
        refine wo_val (.int .i64 r2.2) rfl pv_assign ?_
        refine wo_nil ?_
        refine wr_seq ?_
        refine wr_seq ?_
        refine wr_region ?_
        refine wo_val (.int .i64 r2.2) rfl pv_move ?_
        refine wo_val (.bool (r2.2 != 0)) rfl (pv_bin rfl rfl rfl) ?_
        refine wo_nil ?_
        refine wf_iteb rfl (fun hc2 => ?_) (fun hc2 => ?_)
        · refine wr_seq ?_
          refine wr_region ?_
          refine wo_val (.sl 1 (List.map rB r2.1)) rfl pv_move ?_
          refine wo_val (.int .i64 (r2.1.length : Int)) rfl (pv_len (len_sl ti39)) ?_
          refine wo_val (.bool ((r2.1.length : Int) == 0)) rfl (pv_bin rfl rfl rfl) ?_
          refine wo_val (.bool ((r2.1.length : Int) == 0)) rfl pv_assign ?_
          refine wo_nil ?_
          exact wr_ret (a := ((r2.1.length : Int) == 0)) (vs := [(.bool ((r2.1.length : Int) == 0))]) Try.func8 hI rfl (.same _)
        · refine wr_skip ?_
          refine wr_seq ?_
          refine wr_seq ?_
          refine wr_region ?_
          refine wo_val (.sl 1 (List.map rB r2.1)) rfl pv_move ?_
          refine wo_val (.int .i64 (r2.1.length : Int)) rfl (pv_len (len_sl ti39)) ?_
          refine wo_val (.int .i64 volumes) rfl pv_move ?_
          refine wo_val (.bool ((r2.1.length : Int) != volumes)) rfl (pv_bin rfl rfl rfl) ?_
          refine wo_nil ?_
          refine wf_iteb rfl (fun hc3 => ?_) (fun hc3 => ?_)
          · refine wr_seq ?_
            refine wr_region ?_
            refine wo_val (.bool false) rfl pv_assign ?_
            refine wo_nil ?_
            exact wr_ret (a := false) (vs := [(.bool false)]) Try.func8 hI rfl (.same _)
          · refine wr_skip ?_
            refine wr_seq ?_
            refine wr_seq ?_
            refine wr_region ?_
            refine wo_val (.sl 1 (List.map rB r2.1)) rfl pv_move ?_
            refine wo_val (.int .i64 (r2.1.length : Int)) rfl (pv_len (len_sl ti39)) ?_
            refine wo_val (.int .i64 0) rfl pv_move ?_
            refine wo_nil ?_
            refine wr_block ?_
            refine wr_is [(1, (.sl 3 (List.map rStation s))), (2, (.sl 3 (List.map rStatus l))), (3, (.int .i64 minute)), (40, (.sl 1 (List.map rB r2.1))), (41, (.int .i64 (r2.1.length : Int))), (42, (.int .i64 0))] (.cons rfl (.cons rfl (.cons rfl (.cons rfl (.cons rfl (.cons rfl .nil)))))) ?_
            refine wf_each' (P := Try.prog) r2.1 (fun j a => fun _ => law26_RadarLost_b1 s l minute j a) ((alt (fun _ => .ok true) (fun r => .ok r)) : (Unit ⊕ Bool) → R Bool)
              (fun j => fun _ => fun (fr : Nat → AV) (h : AHeap) => fr = frA [(1, (.sl 3 (List.map rStation s))), (2, (.sl 3 (List.map rStatus l))), (3, (.int .i64 minute)), (40, (.sl 1 (List.map rB r2.1))), (41, (.int .i64 (r2.1.length : Int))), (42, (.int .i64 (j : Int)))] ∧ h = hp h0 ids []) () ?_ ?_ ?_
            · exact ⟨rfl, rfl⟩
            · rintro j a ha W hW _ fr h ⟨rfl, rfl⟩
              refine wr_mod (m' := law26_RadarLost_b1 s l minute j a) rfl (wr_mod (law26_RadarLost_b1.eq_1 _ _ _ _ _) ?_)
              refine wr_seq ?_
              refine wr_region ?_
              refine wo_val (.bool (decide ((j : Int) < (r2.1.length : Int)))) rfl (pv_bin rfl rfl rfl) ?_
              refine wo_nil ?_
              refine wr_seq ?_
              refine wr_lim (t := 40) (L := r2.1) rfl fun hlim => ?_
              refine wr_condT rfl (Int.ofNat_lt.2 (lt_of_get ha)) ?_
              refine wr_skip ?_
              refine wr_seq ?_
              refine wr_block ?_
              refine wr_seq ?_
              refine wr_region ?_
              refine wo_val (.int .i64 (j : Int)) rfl pv_move ?_
              refine wo_val (.cp [(.bool a)] 0) rfl (pv_ixa (ixa_nat ti39 ti4 rfl ha)) ?_
              refine wo_val (.bool a) rfl (pv_load (ld_cp ti4 rfl)) ?_
              refine wo_val (.int .i64 (j : Int)) rfl pv_assign ?_
              refine wo_val (.bool a) rfl pv_assign ?_
              refine wo_nil ?_
              refine wr_seq ?_
              refine wr_region ?_
              refine wo_val (.int .i64 (j : Int)) rfl pv_move ?_
              refine wo_val (.sl 3 (List.map rStation s)) rfl pv_move ?_
              refine wo_val (.sl 3 (List.map rStatus l)) rfl pv_move ?_
              refine of_call [(.int .i64 (j : Int)), (.sl 3 (List.map rStation s)), (.sl 3 (List.map rStatus l))] rfl rfl rfl rfl ((cp_radar_Lost (j : Int) s l) _) (fun v _ => wu_pan Try.func8 hI) fun r3 _ => ?_
              refine wo_val (.int .i64 minute) rfl pv_move ?_
              refine of_call [(.sl 2 (List.map rSpan r3)), (.int .i64 minute)] rfl rfl rfl rfl ((cp_hours_Has r3 minute) _) (fun v _ => wu_pan Try.func8 hI) fun r4 _ => ?_
              refine wo_val (.bool a) rfl pv_move ?_
              refine wo_val (.bool (r4 == a)) rfl (pv_bin rfl rfl (bin_beq ti4)) ?_
              refine wo_nil ?_
              refine wf_iteb rfl (fun hc4 => ?_) (fun hc4 => ?_)
              · refine wr_seq ?_
                refine wr_region ?_
                refine wo_val (.bool false) rfl pv_assign ?_
                refine wo_nil ?_
                refine wx_each ?_
                refine w_altr ?_
                exact wr_ret (a := false) (vs := [(.bool false)]) Try.func8 hI rfl (.same _)
              · refine wr_skip ?_
                refine wr_inBlock ?_
                refine wr_region ?_
                refine wo_val (.int .i64 (IntKind.wrap .i64 ((j : Int) + 1))) rfl (pv_bin rfl rfl rfl) ?_
                refine wo_val (.int .i64 (IntKind.wrap .i64 ((j : Int) + 1))) rfl pv_move ?_
                refine wo_nil ?_
                refine wr_is [(1, (.sl 3 (List.map rStation s))), (2, (.sl 3 (List.map rStatus l))), (3, (.int .i64 minute)), (40, (.sl 1 (List.map rB r2.1))), (41, (.int .i64 (r2.1.length : Int))), (42, (.int .i64 ((j + 1 : Nat) : Int)))] (.cons rfl (.cons rfl (.cons rfl (.cons rfl (.cons rfl (.cons (inc_ok (lt_of_get ha) hlim) .nil)))))) ?_
                refine wb_each ?_
                refine hW () _ _ ?_
                exact ⟨rfl, rfl⟩
            · rintro _ fr h ⟨rfl, rfl⟩
              refine wr_mod (alt_inl _ _ _) ?_
              refine wr_seq ?_
              refine wr_region ?_
              refine wo_val (.bool (decide ((r2.1.length : Int) < (r2.1.length : Int)))) rfl (pv_bin rfl rfl rfl) ?_
              refine wo_nil ?_
              refine wr_seq ?_
              refine wr_condF rfl (Int.lt_irrefl _) ?_
              refine wr_exit rfl ?_
              refine wr_seq ?_
              refine wr_region ?_
              refine wo_val (.bool true) rfl pv_assign ?_
              refine wo_nil ?_
              exact wr_ret (a := true) (vs := [(.bool true)]) Try.func8 hI rfl (.same _)
    · refine wo_not (tj := 19) (b := true) rfl (congrArg AV.bool hb1) rfl rfl ?_
      refine wo_not (tj := 19) (b := true) rfl (congrArg AV.bool hb1) rfl rfl ?_
      refine wo_val (.bool true) rfl (pv_pick (t := true) (congrArg AV.bool hb1) rfl) ?_
      exact wo_is [(0, (.int .i64 volumes)), (1, (.sl 3 (List.map rStation s))), (2, (.sl 3 (List.map rStatus l))), (3, (.int .i64 minute)), (22, (.bool ((!r1) || (decide (volumes > 6)))))] (.cons rfl (.cons rfl (.cons rfl (.cons rfl (.cons (or_t hb1) .nil))))) hJ
    · refine wo_valg (tj := 19) (.int .i64 volumes) rfl (congrArg AV.bool hb1) rfl pv_move ?_
      refine wo_valg (tj := 19) (.bool (decide (volumes > 6))) rfl (congrArg AV.bool hb1) rfl (pv_bin rfl rfl rfl) ?_
      refine wo_val (.bool (decide (volumes > 6))) rfl (pv_pick (t := false) (congrArg AV.bool hb1) rfl) ?_
      exact wo_is [(0, (.int .i64 volumes)), (1, (.sl 3 (List.map rStation s))), (2, (.sl 3 (List.map rStatus l))), (3, (.int .i64 minute)), (22, (.bool ((!r1) || (decide (volumes > 6)))))] (.cons rfl (.cons rfl (.cons rfl (.cons rfl (.cons (or_f hb1) .nil))))) hJ
  · refine wr_seq ?_
    refine wr_region ?_
    refine wo_val (.bool false) rfl pv_assign ?_
    refine wo_nil ?_
    exact wr_ret (a := false) (vs := [(.bool false)]) Try.func8 hI rfl (.same _)
end Go.Am

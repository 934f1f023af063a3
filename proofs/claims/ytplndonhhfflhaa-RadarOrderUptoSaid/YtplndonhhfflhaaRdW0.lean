/- The models hold of the program. Written by dc.py. -/
import Derived.Test.YtplndonhhfflhaaRdT
import Derived.Test.YtplndonhhfflhaaRdM
namespace Go.Am
open Go Go.Proofs
set_option maxRecDepth 100000
set_option linter.unusedSimpArgs false
set_option linter.unusedVariables false
theorem cp_radar_in (n : Int) (least : Int) (most : Int) : CP Try.prog 27 [(.int .i64 n), (.int .i64 least), (.int .i64 most)] (radar_in n least most) (fun (x : Bool) => (AV.bool x)) := by
  refine cp_intro (n := 15) 0 Try.func27 rfl (by decide) rfl rfl fun h0 ids hI => ?_
  refine wr_in (wr_mod (radar_in.eq_1 _ _ _) ?_)
  refine wr_seq ?_
  refine wr_region ?_
  refine wo_val (.bool false) rfl pv_assign ?_
  refine wo_nil ?_
  refine wr_seq ?_
  refine wr_region ?_
  refine wo_val (.int .i64 n) rfl pv_move ?_
  refine wo_val (.int .i64 least) rfl pv_move ?_
  refine wo_val (.bool (decide (n ≥ least))) rfl (pv_bin rfl rfl rfl) ?_
  refine wo_val (.bool (decide (n ≥ least))) rfl pv_move ?_
  refine wo_meet 4 [(14, (.bool ((decide (n ≥ least)) && (decide (n ≤ most)))))] ?_ fun hJ => wo_cases (decide (n ≥ least)) (fun hb1 => ?_) (fun hb1 => ?_)
  · refine wo_val (.bool ((decide (n ≥ least)) && (decide (n ≤ most)))) rfl pv_assign ?_
    refine wo_nil ?_
    exact wr_ret (a := ((decide (n ≥ least)) && (decide (n ≤ most)))) (vs := [(.bool ((decide (n ≥ least)) && (decide (n ≤ most))))]) Try.func27 hI rfl (.same _)
  · refine wo_valg (tj := 10) (.int .i64 n) rfl (congrArg AV.bool hb1) rfl pv_move ?_
    refine wo_valg (tj := 10) (.int .i64 most) rfl (congrArg AV.bool hb1) rfl pv_move ?_
    refine wo_valg (tj := 10) (.bool (decide (n ≤ most))) rfl (congrArg AV.bool hb1) rfl (pv_bin rfl rfl rfl) ?_
    refine wo_val (.bool (decide (n ≤ most))) rfl (pv_pick (t := true) (congrArg AV.bool hb1) rfl) ?_
    exact wo_is [(14, (.bool ((decide (n ≥ least)) && (decide (n ≤ most)))))] (.cons (and_t hb1) .nil) hJ
  · refine wo_not (tj := 10) (b := false) rfl (congrArg AV.bool hb1) rfl rfl ?_
    refine wo_not (tj := 10) (b := false) rfl (congrArg AV.bool hb1) rfl rfl ?_
    refine wo_not (tj := 10) (b := false) rfl (congrArg AV.bool hb1) rfl rfl ?_
    refine wo_val (.bool false) rfl (pv_pick (t := false) (congrArg AV.bool hb1) rfl) ?_
    exact wo_is [(14, (.bool ((decide (n ≥ least)) && (decide (n ≤ most)))))] (.cons (and_f hb1) .nil) hJ

theorem cp_cmp_isNaN_int (a : Int) : CP Try.prog 51 [(.int .i64 a)] (cmp_isNaN_int a) (fun (x : Bool) => (AV.bool x)) := by
  refine cp_intro (n := 6) 0 Try.func51 rfl (by decide) rfl rfl fun h0 ids hI => ?_
  refine wr_in (wr_mod (cmp_isNaN_int.eq_1 _) ?_)
  refine wr_seq ?_
  refine wr_region ?_
  refine wo_val (.bool false) rfl pv_assign ?_
  refine wo_nil ?_
  refine wr_seq ?_
  refine wr_region ?_
  refine wo_val (.int .i64 a) rfl pv_move ?_
  refine wo_val (.int .i64 a) rfl pv_move ?_
  refine wo_val (.bool (a != a)) rfl (pv_bin rfl rfl rfl) ?_
  refine wo_val (.bool (a != a)) rfl pv_assign ?_
  refine wo_nil ?_
  exact wr_ret (a := (a != a)) (vs := [(.bool (a != a))]) Try.func51 hI rfl (.same _)

theorem cp_cmp_Compare_int (a : Int) (y : Int) : CP Try.prog 45 [(.int .i64 a), (.int .i64 y)] (cmp_Compare_int a y) (fun (x : Int) => (AV.int .i64 x)) := by
  refine cp_intro (n := 20) 0 Try.func45 rfl (by decide) rfl rfl fun h0 ids hI => ?_
  refine wr_in (wr_mod (cmp_Compare_int.eq_1 _ _) ?_)
  refine wr_seq ?_
  refine wr_region ?_
  refine wo_val (.int .i64 0) rfl pv_assign ?_
  refine wo_nil ?_
  refine wr_seq ?_
  refine wr_region ?_
  refine wo_val (.int .i64 a) rfl pv_move ?_
  refine of_call [(.int .i64 a)] rfl rfl rfl rfl ((cp_cmp_isNaN_int a) _) (fun v _ => wu_pan Try.func45 hI) fun xNaN _ => ?_
  refine wo_val (.bool xNaN) rfl pv_assign ?_
  refine wo_nil ?_
  refine wr_seq ?_
  refine wr_region ?_
  refine wo_val (.int .i64 y) rfl pv_move ?_
  refine of_call [(.int .i64 y)] rfl rfl rfl rfl ((cp_cmp_isNaN_int y) _) (fun v _ => wu_pan Try.func45 hI) fun yNaN _ => ?_
  refine wo_val (.bool yNaN) rfl pv_assign ?_
  refine wo_nil ?_
  refine wr_seq ?_
  refine wr_seq ?_
  refine wr_region ?_
  refine wo_val (.bool xNaN) rfl pv_move ?_
  refine wo_nil ?_
  refine wf_iteb rfl (fun hc => ?_) (fun hc => ?_)
  · refine wr_seq ?_
    refine wr_seq ?_
    refine wr_region ?_
    refine wo_val (.bool yNaN) rfl pv_move ?_
    refine wo_nil ?_
    refine wf_iteb rfl (fun hc1 => ?_) (fun hc1 => ?_)
    · refine wr_seq ?_
      refine wr_region ?_
      refine wo_val (.int .i64 0) rfl pv_assign ?_
      refine wo_nil ?_
      exact wr_ret (a := 0) (vs := [(.int .i64 0)]) Try.func45 hI rfl (.same _)
    · refine wr_skip ?_
      refine wr_seq ?_
      refine wr_region ?_
      refine wo_val (.int .i64 (-1)) rfl pv_assign ?_
      refine wo_nil ?_
      exact wr_ret (a := (-1)) (vs := [(.int .i64 (-1))]) Try.func45 hI rfl (.same _)
  · refine wr_skip ?_
    refine wr_seq ?_
    refine wr_seq ?_
    refine wr_region ?_
    refine wo_val (.bool yNaN) rfl pv_move ?_
    refine wo_nil ?_
    refine wf_iteb rfl (fun hc2 => ?_) (fun hc2 => ?_)
    · refine wr_seq ?_
      refine wr_region ?_
      refine wo_val (.int .i64 1) rfl pv_assign ?_
      refine wo_nil ?_
      exact wr_ret (a := 1) (vs := [(.int .i64 1)]) Try.func45 hI rfl (.same _)
    · refine wr_skip ?_
      refine wr_seq ?_
      refine wr_seq ?_
      refine wr_region ?_
      refine wo_val (.int .i64 a) rfl pv_move ?_
      refine wo_val (.int .i64 y) rfl pv_move ?_
      refine wo_val (.bool (decide (a < y))) rfl (pv_bin rfl rfl rfl) ?_
      refine wo_nil ?_
      refine wf_ite rfl (fun hc3 => ?_) (fun hc3 => ?_)
      · refine wr_seq ?_
        refine wr_region ?_
        refine wo_val (.int .i64 (-1)) rfl pv_assign ?_
        refine wo_nil ?_
        exact wr_ret (a := (-1)) (vs := [(.int .i64 (-1))]) Try.func45 hI rfl (.same _)
      · refine wr_skip ?_
        refine wr_seq ?_
        refine wr_seq ?_
        refine wr_region ?_
        refine wo_val (.int .i64 a) rfl pv_move ?_
        refine wo_val (.int .i64 y) rfl pv_move ?_
        refine wo_val (.bool (decide (a > y))) rfl (pv_bin rfl rfl rfl) ?_
        refine wo_nil ?_
        refine wf_ite rfl (fun hc4 => ?_) (fun hc4 => ?_)
        · refine wr_seq ?_
          refine wr_region ?_
          refine wo_val (.int .i64 1) rfl pv_assign ?_
          refine wo_nil ?_
          exact wr_ret (a := 1) (vs := [(.int .i64 1)]) Try.func45 hI rfl (.same _)
        · refine wr_skip ?_
          refine wr_seq ?_
          refine wr_region ?_
          refine wo_val (.int .i64 0) rfl pv_assign ?_
          refine wo_nil ?_
          exact wr_ret (a := 0) (vs := [(.int .i64 0)]) Try.func45 hI rfl (.same _)

theorem cp_cmp_Or_int (vals : (List Int)) : CP Try.prog 44 [(.sl 1 (List.map (rI .i64) vals))] (cmp_Or_int vals) (fun (x : Int) => (AV.int .i64 x)) := by
  refine cp_intro (n := 18) 0 Try.func44 rfl (by decide) rfl rfl fun h0 ids hI => ?_
  refine wr_in (wr_mod (cmp_Or_int.eq_1 _) ?_)
  refine wr_seq ?_
  refine wr_region ?_
  refine wo_val (.int .i64 0) rfl pv_assign ?_
  refine wo_nil ?_
  refine wr_seq ?_
  refine wr_region ?_
  refine wo_val (.int .i64 0) rfl pv_assign ?_
  refine wo_nil ?_
  refine wr_seq ?_
  refine wr_seq ?_
  refine wr_region ?_
  refine wo_val (.sl 1 (List.map (rI .i64) vals)) rfl pv_move ?_
  refine wo_val (.int .i64 (vals.length : Int)) rfl (pv_len (len_sl ti36)) ?_
  refine wo_val (.int .i64 0) rfl pv_move ?_
  refine wo_nil ?_
  refine wr_block ?_
  refine wr_is [(3, (.int .i64 0)), (6, (.sl 1 (List.map (rI .i64) vals))), (7, (.int .i64 (vals.length : Int))), (8, (.int .i64 0))] (.cons rfl (.cons rfl (.cons rfl (.cons rfl .nil)))) ?_
  refine wf_each' (P := Try.prog) vals (fun _ a => fun _ => cmp_Or_int_b1 a) ((alt (fun _ => .ok 0) (fun r => .ok r)) : (Unit ⊕ Int) → R Int)
    (fun j => fun _ => fun (fr : Nat → AV) (h : AHeap) => fr = frA [(3, (.int .i64 0)), (6, (.sl 1 (List.map (rI .i64) vals))), (7, (.int .i64 (vals.length : Int))), (8, (.int .i64 (j : Int)))] ∧ h = hp h0 ids []) () ?_ ?_ ?_
  · exact ⟨rfl, rfl⟩
  · rintro j a ha W hW _ fr h ⟨rfl, rfl⟩
    refine wr_mod (m' := cmp_Or_int_b1 a) rfl (wr_mod (cmp_Or_int_b1.eq_1 _) ?_)
    refine wr_seq ?_
    refine wr_region ?_
    refine wo_val (.bool (decide ((j : Int) < (vals.length : Int)))) rfl (pv_bin rfl rfl rfl) ?_
    refine wo_nil ?_
    refine wr_seq ?_
    refine wr_lim (t := 6) (L := vals) rfl fun hlim => ?_
    refine wr_condT rfl (Int.ofNat_lt.2 (lt_of_get ha)) ?_
    refine wr_skip ?_
    refine wr_seq ?_
    refine wr_block ?_
    refine wr_seq ?_
    refine wr_region ?_
    refine wo_val (.cp [(.int .i64 a)] 0) rfl (pv_ixa (ixa_nat ti36 ti3 rfl ha)) ?_
    refine wo_val (.int .i64 a) rfl (pv_load (ld_cp ti3 rfl)) ?_
    refine wo_val (.int .i64 a) rfl pv_assign ?_
    refine wo_nil ?_
    refine wr_seq ?_
    refine wr_region ?_
    refine wo_val (.int .i64 a) rfl pv_move ?_
    refine wo_val (.int .i64 0) rfl pv_move ?_
    refine wo_val (.bool (a != 0)) rfl (pv_bin rfl rfl rfl) ?_
    refine wo_nil ?_
    refine wf_iteb rfl (fun hc => ?_) (fun hc => ?_)
    · refine wr_seq ?_
      refine wr_region ?_
      refine wo_val (.int .i64 a) rfl pv_move ?_
      refine wo_val (.int .i64 a) rfl pv_assign ?_
      refine wo_nil ?_
      refine wx_each ?_
      refine w_altr ?_
      exact wr_ret (a := a) (vs := [(.int .i64 a)]) Try.func44 hI rfl (.same _)
    · refine wr_skip ?_
      refine wr_inBlock ?_
      refine wr_region ?_
      refine wo_val (.int .i64 (IntKind.wrap .i64 ((j : Int) + 1))) rfl (pv_bin rfl rfl rfl) ?_
      refine wo_val (.int .i64 (IntKind.wrap .i64 ((j : Int) + 1))) rfl pv_move ?_
      refine wo_nil ?_
      refine wr_is [(3, (.int .i64 0)), (6, (.sl 1 (List.map (rI .i64) vals))), (7, (.int .i64 (vals.length : Int))), (8, (.int .i64 ((j + 1 : Nat) : Int)))] (.cons rfl (.cons rfl (.cons rfl (.cons (inc_ok (lt_of_get ha) hlim) .nil)))) ?_
      refine wb_each ?_
      refine hW () _ _ ?_
      exact ⟨rfl, rfl⟩
  · rintro _ fr h ⟨rfl, rfl⟩
    refine wr_mod (alt_inl _ _ _) ?_
    refine wr_seq ?_
    refine wr_region ?_
    refine wo_val (.bool (decide ((vals.length : Int) < (vals.length : Int)))) rfl (pv_bin rfl rfl rfl) ?_
    refine wo_nil ?_
    refine wr_seq ?_
    refine wr_condF rfl (Int.lt_irrefl _) ?_
    refine wr_exit rfl ?_
    refine wr_seq ?_
    refine wr_region ?_
    refine wo_val (.int .i64 0) rfl pv_move ?_
    refine wo_val (.int .i64 0) rfl pv_assign ?_
    refine wo_nil ?_
    exact wr_ret (a := 0) (vs := [(.int .i64 0)]) Try.func44 hI rfl (.same _)

theorem cp_radar_status_compare (s : Status) (b : Status) : CP Try.prog 35 [(.agg (rStatus s)), (.agg (rStatus b))] (radar_status_compare s b) (fun (x : Int) => (AV.int .i64 x)) := by
  refine cp_intro (n := 17) 2 Try.func35 rfl (by decide) rfl rfl fun h0 ids hI => ?_
  refine wr_in (wr_mod (radar_status_compare.eq_1 _ _) ?_)
  refine wr_seq ?_
  refine wr_region ?_
  refine wo_box (v := (.agg (rStatus s))) (j := 0) hI rfl rfl rfl rfl rfl rfl rfl fun g => ?_
  refine wo_box (v := (.agg (rStatus b))) (j := 1) hI rfl rfl rfl rfl rfl rfl rfl fun g1 => ?_
  refine wo_val (.int .i64 0) rfl pv_assign ?_
  refine wo_nil ?_
  refine wr_hp [(some (.rows g 3 [(rStatus s)])), (some (.rows g1 3 [(rStatus b)]))] rfl ?_
  refine wr_seq ?_
  refine wr_draw hmix [[], [0], [], [2], [0, 1, 2, 3], [], [5], [], [7], [0, 1, 2, 3, 4, 5, 6, 7, 8], [0, 1, 2, 3, 4, 5, 6, 7, 8, 9], [0, 1, 2, 3, 4, 5, 6, 7, 8, 9, 10], [0, 1, 2, 3, 4, 5, 6, 7, 8, 9, 10, 11, 11, 11]] [(false, 0), (false, 1), (false, 2), (false, 3), (false, 5), (false, 6), (false, 7), (false, 8), (true, 4), (true, 9), (true, 10), (true, 11), (false, 12)] (by kernel_rfl) ?_
  refine wp_val (.ptr (ix ids 0) g 0 0) rfl rfl (pv_fa (fa_ptr (c := 0) (off := 0) (i := 0) ti71 rfl ti3 rfl)) ?_
  refine wp_val (.int .i64 s.Station) rfl rfl (pv_load (ld_ptr hI rfl rfl rfl ti3 rfl)) ?_
  refine wp_val (.ptr (ix ids 1) g1 0 0) rfl rfl (pv_fa (fa_ptr (c := 0) (off := 0) (i := 0) ti71 rfl ti3 rfl)) ?_
  refine wp_val (.int .i64 b.Station) rfl rfl (pv_load (ld_ptr hI rfl rfl rfl ti3 rfl)) ?_
  refine wp_val (.ptr (ix ids 0) g 0 1) rfl rfl (pv_fa (fa_ptr (c := 0) (off := 1) (i := 1) ti71 rfl ti3 rfl)) ?_
  refine wp_val (.int .i64 s.From) rfl rfl (pv_load (ld_ptr hI rfl rfl rfl ti3 rfl)) ?_
  refine wp_val (.ptr (ix ids 1) g1 0 1) rfl rfl (pv_fa (fa_ptr (c := 0) (off := 1) (i := 1) ti71 rfl ti3 rfl)) ?_
  refine wp_val (.int .i64 b.From) rfl rfl (pv_load (ld_ptr hI rfl rfl rfl ti3 rfl)) ?_
  refine wp_call [(.int .i64 s.Station), (.int .i64 b.Station)] rfl rfl rfl rfl rfl ((cp_cmp_Compare_int s.Station b.Station) _) (fun v _ _ _ => wu_pan Try.func35 hI) (pend_no rfl (pv_load (ld_ptr hI rfl rfl rfl ti3 rfl)) (pend_no rfl (pv_fa (fa_ptr (c := 0) (off := 1) (i := 1) ti71 rfl ti3 rfl)) (pend_no rfl (pv_load (ld_ptr hI rfl rfl rfl ti3 rfl)) (pend_no rfl (pv_fa (fa_ptr (c := 0) (off := 1) (i := 1) ti71 rfl ti3 rfl)) (pend_yes rfl (pend_yes rfl (pend_yes rfl (pend_yes rfl pend_nil)))))))) fun r _ => ?_
  refine wp_call [(.int .i64 s.From), (.int .i64 b.From)] rfl rfl rfl rfl rfl ((cp_cmp_Compare_int s.From b.From) _) (fun v _ _ _ => wu_pan Try.func35 hI) (pend_yes rfl (pend_yes rfl (pend_yes rfl (pend_yes rfl (pend_yes rfl (pend_yes rfl (pend_yes rfl (pend_yes rfl pend_nil)))))))) fun r1 _ => ?_
  refine wp_op rfl rfl (fun _ _ => rfl) (fun K hK => eff_bsC (e := (rI .i64)) (L := [r, r1]) (st := 1) (rows := [[(.int .i64 r)], [(.int .i64 r1)]]) ti36 ti3 rfl rfl rfl rfl rfl (.cons (RowSim.refl _) (.cons (RowSim.refl _) .nil)) (fun x => ok_I x) rfl rfl (hK _ _ (pend_yes rfl (pend_yes rfl (pend_yes rfl (pend_yes rfl (pend_yes rfl (pend_yes rfl (pend_yes rfl (pend_yes rfl pend_nil)))))))) ?_)) 
  clear hK K
  refine wp_call [(.sl 1 (List.map (rI .i64) [r, r1]))] rfl rfl rfl rfl rfl ((cp_cmp_Or_int [r, r1]) _) (fun v _ _ _ => wu_pan Try.func35 hI) (pend_yes rfl (pend_yes rfl (pend_yes rfl (pend_yes rfl (pend_yes rfl (pend_yes rfl (pend_yes rfl (pend_yes rfl pend_nil)))))))) fun r2 _ => ?_
  refine wp_val (.int .i64 r2) rfl rfl pv_assign ?_
  refine wp_nil ?_
  exact wr_ret (a := r2) (vs := [(.int .i64 r2)]) Try.func35 hI rfl (.same _)

theorem cp_radar_order (a : Status) (b : Status) : CP Try.prog 24 [(.agg (rStatus a)), (.agg (rStatus b))] (radar_order a b) (fun (x : Int) => (AV.int .i64 x)) := by
  refine cp_intro (n := 10) 2 Try.func24 rfl (by decide) rfl rfl fun h0 ids hI => ?_
  refine wr_in (wr_mod (radar_order.eq_1 _ _) ?_)
  refine wr_seq ?_
  refine wr_region ?_
  refine wo_box (v := (.agg (rStatus a))) (j := 0) hI rfl rfl rfl rfl rfl rfl rfl fun g => ?_
  refine wo_box (v := (.agg (rStatus b))) (j := 1) hI rfl rfl rfl rfl rfl rfl rfl fun g1 => ?_
  refine wo_val (.int .i64 0) rfl pv_assign ?_
  refine wo_nil ?_
  refine wr_hp [(some (.rows g 3 [(rStatus a)])), (some (.rows g1 3 [(rStatus b)]))] rfl ?_
  refine wr_seq ?_
  refine wr_region ?_
  refine wo_val (.func (.func 35) [] []) rfl pv_assign ?_
  refine wo_nil ?_
  refine wr_seq ?_
  refine wr_region ?_
  refine wo_val (.func (.func 35) [] []) rfl pv_move ?_
  refine wo_val (.agg (rStatus a)) rfl (pv_load (ld_ptr hI rfl rfl rfl ti24 rfl)) ?_
  refine wo_val (.agg (rStatus b)) rfl (pv_load (ld_ptr hI rfl rfl rfl ti24 rfl)) ?_
  refine of_call [(.agg (rStatus a)), (.agg (rStatus b))] rfl rfl rfl rfl ((cp_radar_status_compare a b) _) (fun v _ => wu_pan Try.func24 hI) fun r _ => ?_
  refine wo_val (.int .i64 r) rfl pv_assign ?_
  refine wo_nil ?_
  exact wr_ret (a := r) (vs := [(.int .i64 r)]) Try.func24 hI rfl (.same _)

theorem cp_radar_Check (many : Int) (l : (List Status)) : CP Try.prog 14 [(.int .i64 many), (.sl 3 (List.map rStatus l))] (radar_Check many l) (fun (x : Int) => (AV.int .i64 x)) := by
  refine cp_intro (n := 44) 1 Try.func14 rfl (by decide) rfl rfl fun h0 ids hI => ?_
  refine wr_in (wr_mod (radar_Check.eq_1 _ _) ?_)
  refine wr_seq ?_
  refine wr_region ?_
  refine wo_val (.int .i64 0) rfl pv_assign ?_
  refine wo_nil ?_
  refine wr_seq ?_
  refine wr_seq ?_
  refine wr_region ?_
  refine wo_val (.int .i64 many) rfl pv_move ?_
  refine of_call [(.int .i64 many), (.int .i64 0), (.int .i64 4)] rfl rfl rfl rfl ((cp_radar_in many 0 4) _) (fun v _ => wu_pan Try.func14 hI) fun r _ => ?_
  refine wo_val (.bool (!r)) rfl (pv_un rfl) ?_
  refine wo_nil ?_
  refine wf_itebn rfl (fun hc => ?_) (fun hc => ?_)
  · refine wr_skip ?_
    refine wr_seq ?_
    refine wr_seq ?_
    refine wr_region ?_
    refine wo_val (.sl 3 (List.map rStatus l)) rfl pv_move ?_
    refine wo_val (.int .i64 (l.length : Int)) rfl (pv_len (len_sl ti22)) ?_
    refine wo_val (.int .i64 0) rfl pv_move ?_
    refine wo_nil ?_
    refine wr_block ?_
    refine wr_is [(0, (.int .i64 many)), (1, (.sl 3 (List.map rStatus l))), (10, (.sl 3 (List.map rStatus l))), (11, (.int .i64 (l.length : Int))), (12, (.int .i64 0))] (.cons rfl (.cons rfl (.cons rfl (.cons rfl (.cons rfl .nil))))) ?_
    refine wf_each' (P := Try.prog) l (fun j a => fun _ => radar_Check_b1 many l j a) ((alt (fun _ => .ok 0) (fun r => .ok r)) : (Unit ⊕ Int) → R Int)
      (fun j => fun _ => fun (fr : Nat → AV) (h : AHeap) => fr = frA [(0, (.int .i64 many)), (1, (.sl 3 (List.map rStatus l))), (10, (.sl 3 (List.map rStatus l))), (11, (.int .i64 (l.length : Int))), (12, (.int .i64 (j : Int)))] ∧ h = hp h0 ids [none]) () ?_ ?_ ?_
    · exact ⟨rfl, rfl⟩
    · rintro j a ha W hW _ fr h ⟨rfl, rfl⟩
      refine wr_mod (m' := radar_Check_b1 many l j a) rfl (wr_mod (radar_Check_b1.eq_1 _ _ _ _) ?_)
      refine wr_seq ?_
      refine wr_region ?_
      refine wo_val (.bool (decide ((j : Int) < (l.length : Int)))) rfl (pv_bin rfl rfl rfl) ?_
      refine wo_nil ?_
      refine wr_seq ?_
      refine wr_lim (t := 1) (L := l) rfl fun hlim => ?_
      refine wr_condT rfl (Int.ofNat_lt.2 (lt_of_get ha)) ?_
      refine wr_skip ?_
      refine wr_seq ?_
      refine wr_block ?_
      refine wr_seq ?_
      refine wr_region ?_
      refine wo_val (.int .i64 (j : Int)) rfl pv_move ?_
      refine wo_val (.cp (rStatus a) 0) rfl (pv_ixa (ixa_nat ti22 ti24 rfl ha)) ?_
      refine wo_val (.agg (rStatus a)) rfl (pv_load (ld_cp ti24 rfl)) ?_
      refine wo_alloc (j := 0) hI rfl rfl rfl rfl ti24 rfl fun g => ?_
      refine wo_val (.int .i64 (j : Int)) rfl pv_assign ?_
      refine wo_store (st_ptr hI rfl rfl rfl rfl ti24 rfl rfl rfl rfl rfl) ?_
      refine wo_nil ?_
      refine wr_hp [(some (.rows g 3 [(rStatus a)]))] rfl ?_
      refine wr_seq ?_
      refine wf_join (fun x1 => radar_Check_j1 x1) (fun x1 => fun (fr : Nat → AV) (h : AHeap) => fr = frA [(0, (.int .i64 many)), (1, (.sl 3 (List.map rStatus l))), (10, (.sl 3 (List.map rStatus l))), (11, (.int .i64 (l.length : Int))), (12, (.int .i64 (j : Int))), (42, (.bool x1))] ∧ h = hp h0 ids [none]) ?_ fun hJ => ?_
      · rintro x1 fr h ⟨rfl, rfl⟩
        refine wr_mod (radar_Check_j1.eq_1 _) ?_
        refine wf_iteb rfl (fun hc1 => ?_) (fun hc1 => ?_)
        · refine wr_seq ?_
          refine wr_region ?_
          refine wo_val (.int .i64 260) rfl pv_assign ?_
          refine wo_nil ?_
          refine wx_each ?_
          refine w_altr ?_
          exact wr_ret (a := 260) (vs := [(.int .i64 260)]) Try.func14 hI rfl (.same _)
        · refine wr_skip ?_
          refine wr_inBlock ?_
          refine wr_region ?_
          refine wo_val (.int .i64 (IntKind.wrap .i64 ((j : Int) + 1))) rfl (pv_bin rfl rfl rfl) ?_
          refine wo_val (.int .i64 (IntKind.wrap .i64 ((j : Int) + 1))) rfl pv_move ?_
          refine wo_nil ?_
          refine wr_is [(0, (.int .i64 many)), (1, (.sl 3 (List.map rStatus l))), (10, (.sl 3 (List.map rStatus l))), (11, (.int .i64 (l.length : Int))), (12, (.int .i64 ((j + 1 : Nat) : Int)))] (.cons rfl (.cons rfl (.cons rfl (.cons rfl (.cons (inc_ok (lt_of_get ha) hlim) .nil))))) ?_
          refine wb_each ?_
          refine hW () _ _ ?_
          exact ⟨rfl, rfl⟩
      · refine wr_draw hmix [[], [0], [], [2], [0, 1, 2, 3], [0, 1, 2, 3, 4], [0, 1, 2, 3, 4, 5], [0, 1, 2, 3, 4, 5, 6], [0, 1, 2, 3, 4, 5, 6, 7], [0, 1, 2, 3, 4, 5, 6, 7, 8], [0, 1, 2, 3, 4, 5, 6, 7, 8, 9], [0, 1, 2, 3, 4, 5, 6, 7, 8, 9, 10], [0, 1, 2, 3, 4, 5, 6, 7, 8, 9, 10, 11], [0, 1, 2, 3, 4, 5, 6, 7, 8, 9, 10, 11, 12], [0, 1, 2, 3, 4, 5, 6, 7, 8, 9, 10, 11, 12, 13], [0, 1, 2, 3, 4, 5, 6, 7, 8, 9, 10, 11, 12, 13, 14], [0, 1, 2, 3, 4, 5, 6, 7, 8, 9, 10, 11, 12, 13, 14, 15], [0, 1, 2, 3, 4, 5, 6, 7, 8, 9, 10, 11, 12, 13, 14, 15], [0, 1, 2, 3, 4, 5, 6, 7, 8, 9, 10, 11, 12, 13, 14, 15, 17], [0, 1, 2, 3, 4, 5, 6, 7, 8, 9, 10, 11, 12, 13, 14, 15, 16, 17, 18], [0, 1, 2, 3, 4, 5, 6, 7, 8, 9, 10, 11, 12, 13, 14, 15, 16, 17, 18, 19], [0, 1, 2, 3, 4, 5, 6, 7, 8, 9, 10, 11, 12, 13, 14, 15], [0, 1, 2, 3, 4, 5, 6, 7, 8, 9, 10, 11, 12, 13, 14, 15, 16, 17, 18, 19, 20, 21], [0, 1, 2, 3, 4, 5, 6, 7, 8, 9, 10, 11, 12, 13, 14, 15, 16, 17, 18, 19, 20, 21, 22], [0, 1, 2, 3, 4, 5, 6, 7, 8, 9, 10, 11, 12, 13, 14, 15, 16, 17, 18, 19, 20, 21, 22, 23], [0, 1, 2, 3, 4, 5, 6, 7, 8, 9, 10, 11, 12, 13, 14, 15, 16, 17, 18, 19, 20, 21, 22, 23, 24]] [(false, 0), (false, 1), (false, 2), (false, 3), (true, 4), (false, 5), (false, 6), (false, 7), (false, 8), (true, 9), (false, 10), (false, 11), (false, 12), (false, 13), (false, 14), (false, 15), (false, 16), (false, 17), (false, 18), (false, 19), (false, 20), (false, 21), (true, 22), (false, 23), (false, 24), (false, 25)] (by kernel_rfl) ?_
        refine wp_val (.ptr (ix ids 0) g 0 0) rfl rfl (pv_fa (fa_ptr (c := 0) (off := 0) (i := 0) ti24 rfl ti3 rfl)) ?_
        refine wp_val (.int .i64 a.Station) rfl rfl (pv_load (ld_ptr hI rfl rfl rfl ti3 rfl)) ?_
        refine wp_val (.int .i64 many) rfl rfl pv_move ?_
        refine wp_val (.int .i64 (IntKind.wrap .i64 (many - 1))) rfl rfl (pv_bin rfl rfl rfl) ?_
        refine wp_call [(.int .i64 a.Station), (.int .i64 0), (.int .i64 (IntKind.wrap .i64 (many - 1)))] rfl rfl rfl rfl rfl ((cp_radar_in a.Station 0 (IntKind.wrap .i64 (many - 1))) _) (fun v _ _ _ => wu_pan Try.func14 hI) (pend_yes rfl (pend_yes rfl (pend_yes rfl (pend_yes rfl pend_nil)))) fun r1 _ => ?_
        refine wp_val (.bool (!r1)) rfl rfl (pv_un rfl) ?_
        refine wp_val (.bool (!r1)) rfl rfl pv_move ?_
        refine op_iteb (fun hb => ?_) (fun hb => ?_)
        · refine wp_not (tj := 23) (b := true) rfl rfl (congrArg AV.bool hb) rfl rfl ?_
          refine wp_not (tj := 23) (b := true) rfl rfl (congrArg AV.bool hb) rfl rfl ?_
          refine wp_notE (tj := 23) (b := true) rfl rfl (congrArg AV.bool hb) rfl rfl ?_
          refine wp_not (tj := 23) (b := true) rfl rfl (congrArg AV.bool hb) rfl rfl ?_
          refine wp_val (.bool true) rfl rfl (pv_pick (t := true) (congrArg AV.bool hb) rfl) ?_
          refine wp_val (.bool true) rfl rfl pv_move ?_
          refine wp_not (tj := 29) (b := true) rfl rfl rfl rfl rfl ?_
          refine wp_not (tj := 29) (b := true) rfl rfl rfl rfl rfl ?_
          refine wp_not (tj := 29) (b := true) rfl rfl rfl rfl rfl ?_
          refine wp_notu (tj := 32) rfl rfl rfl rfl ?_
          refine wp_notu (tj := 32) rfl rfl rfl rfl ?_
          refine wp_notu (tj := 32) rfl rfl rfl rfl ?_
          refine wp_notu (tj := 32) rfl rfl rfl rfl ?_
          refine wp_notu (tj := 32) rfl rfl rfl rfl ?_
          refine wp_notu (tj := 32) rfl rfl rfl rfl ?_
          refine wp_notuE (tj := 32) rfl rfl rfl rfl ?_
          refine wp_notu (tj := 32) rfl rfl rfl rfl ?_
          refine wp_not (tj := 29) (b := true) rfl rfl rfl rfl rfl ?_
          refine wp_val (.bool true) rfl rfl (pv_pick (t := true) rfl rfl) ?_
          refine wp_nil ?_
          refine wr_drop [none] hI rfl (.drop .nil) ?_
          refine wr_is [(0, (.int .i64 many)), (1, (.sl 3 (List.map rStatus l))), (10, (.sl 3 (List.map rStatus l))), (11, (.int .i64 (l.length : Int))), (12, (.int .i64 (j : Int))), (42, (.bool true))] (.cons rfl (.cons rfl (.cons rfl (.cons rfl (.cons rfl (.cons rfl .nil)))))) ?_
          refine hJ true _ _ ?_
          exact ⟨rfl, rfl⟩
        · refine wp_valg (tj := 23) (.ptr (ix ids 0) g 0 1) rfl rfl (congrArg AV.bool hb) rfl (pv_fa (fa_ptr (c := 0) (off := 1) (i := 1) ti24 rfl ti3 rfl)) ?_
          refine wp_valg (tj := 23) (.int .i64 a.From) rfl rfl (congrArg AV.bool hb) rfl (pv_load (ld_ptr hI rfl rfl rfl ti3 rfl)) ?_
          refine wp_call [(.int .i64 a.From), (.int .i64 0), (.int .i64 1439)] rfl (wanted_yes (tj := 23) rfl (congrArg AV.bool hb)) rfl rfl rfl ((cp_radar_in a.From 0 1439) _) (fun v _ _ _ => wu_pan Try.func14 hI) (pend_yes rfl (pend_yes rfl (pend_yes rfl (pend_yes rfl (pend_yes rfl (pend_yes rfl (pend_yes rfl (pend_yes rfl pend_nil)))))))) fun r2 _ => ?_
          refine wp_valg (tj := 23) (.bool (!r2)) rfl rfl (congrArg AV.bool hb) rfl (pv_un rfl) ?_
          refine wp_val (.bool (!r2)) rfl rfl (pv_pick (t := false) (congrArg AV.bool hb) rfl) ?_
          refine wp_val (.bool (!r2)) rfl rfl pv_move ?_
          refine op_iteb (fun hb1 => ?_) (fun hb1 => ?_)
          · refine wp_not (tj := 29) (b := true) rfl rfl (congrArg AV.bool hb1) rfl rfl ?_
            refine wp_not (tj := 29) (b := true) rfl rfl (congrArg AV.bool hb1) rfl rfl ?_
            refine wp_not (tj := 29) (b := true) rfl rfl (congrArg AV.bool hb1) rfl rfl ?_
            refine wp_notu (tj := 32) rfl rfl rfl rfl ?_
            refine wp_notu (tj := 32) rfl rfl rfl rfl ?_
            refine wp_notu (tj := 32) rfl rfl rfl rfl ?_
            refine wp_notu (tj := 32) rfl rfl rfl rfl ?_
            refine wp_notu (tj := 32) rfl rfl rfl rfl ?_
            refine wp_notu (tj := 32) rfl rfl rfl rfl ?_
            refine wp_notuE (tj := 32) rfl rfl rfl rfl ?_
            refine wp_notu (tj := 32) rfl rfl rfl rfl ?_
            refine wp_not (tj := 29) (b := true) rfl rfl (congrArg AV.bool hb1) rfl rfl ?_
            refine wp_val (.bool true) rfl rfl (pv_pick (t := true) (congrArg AV.bool hb1) rfl) ?_
            refine wp_nil ?_
            refine wr_drop [none] hI rfl (.drop .nil) ?_
            refine wr_is [(0, (.int .i64 many)), (1, (.sl 3 (List.map rStatus l))), (10, (.sl 3 (List.map rStatus l))), (11, (.int .i64 (l.length : Int))), (12, (.int .i64 (j : Int))), (42, (.bool true))] (.cons rfl (.cons rfl (.cons rfl (.cons rfl (.cons rfl (.cons rfl .nil)))))) ?_
            refine hJ true _ _ ?_
            exact ⟨rfl, rfl⟩
          · refine wp_valg (tj := 29) (.int .i64 (j : Int)) rfl rfl (congrArg AV.bool hb1) rfl pv_move ?_
            refine wp_valg (tj := 29) (.bool (decide ((j : Int) > 0))) rfl rfl (congrArg AV.bool hb1) rfl (pv_bin rfl rfl rfl) ?_
            refine wp_valg (tj := 29) (.bool (decide ((j : Int) > 0))) rfl rfl (congrArg AV.bool hb1) rfl pv_move ?_
            refine op_iteb (fun hb2 => ?_) (fun hb2 => ?_)
            · refine wp_valg (tj := 32) (.sl 3 (List.map rStatus l)) rfl rfl (congrArg AV.bool hb2) rfl pv_move ?_
              refine wp_valg (tj := 32) (.int .i64 (j : Int)) rfl rfl (congrArg AV.bool hb2) rfl pv_move ?_
              refine wp_valg (tj := 32) (.int .i64 (IntKind.wrap .i64 ((j : Int) - 1))) rfl rfl (congrArg AV.bool hb2) rfl (pv_bin rfl rfl rfl) ?_
              refine op_idx fun a1 hz hx1 => ?_
              refine wp_valg (tj := 32) (.cp (rStatus a1) 0) rfl rfl (congrArg AV.bool hb2) rfl (pv_ixa (ixa_sl ti22 ti24 rfl hz hx1)) ?_
              refine wp_valg (tj := 32) (.agg (rStatus a1)) rfl rfl (congrArg AV.bool hb2) rfl (pv_load (ld_cp ti24 rfl)) ?_
              refine wp_valg (tj := 32) (.agg (rStatus a)) rfl rfl (congrArg AV.bool hb2) rfl (pv_load (ld_ptr hI rfl rfl rfl ti24 rfl)) ?_
              refine wp_call [(.agg (rStatus a1)), (.agg (rStatus a))] rfl (wanted_yes (tj := 32) rfl (congrArg AV.bool hb2)) rfl rfl rfl ((cp_radar_order a1 a) _) (fun v _ _ _ => wu_pan Try.func14 hI) (pend_yes rfl (pend_yes rfl (pend_yes rfl (pend_yes rfl (pend_yes rfl (pend_yes rfl (pend_yes rfl (pend_yes rfl (pend_yes rfl (pend_yes rfl (pend_yes rfl (pend_yes rfl (pend_yes rfl (pend_yes rfl (pend_yes rfl (pend_yes rfl (pend_yes rfl (pend_yes rfl (pend_yes rfl (pend_yes rfl pend_nil)))))))))))))))))))) fun r3 _ => ?_
              refine wp_valg (tj := 32) (.bool (decide (r3 ≥ 0))) rfl rfl (congrArg AV.bool hb2) rfl (pv_bin rfl rfl rfl) ?_
              refine wp_valg (tj := 29) (.bool (decide (r3 ≥ 0))) rfl rfl (congrArg AV.bool hb1) rfl (pv_pick (t := true) (congrArg AV.bool hb2) rfl) ?_
              refine wp_val (.bool (decide (r3 ≥ 0))) rfl rfl (pv_pick (t := false) (congrArg AV.bool hb1) rfl) ?_
              refine wp_nil ?_
              refine wr_drop [none] hI rfl (.drop .nil) ?_
              refine wr_is [(0, (.int .i64 many)), (1, (.sl 3 (List.map rStatus l))), (10, (.sl 3 (List.map rStatus l))), (11, (.int .i64 (l.length : Int))), (12, (.int .i64 (j : Int))), (42, (.bool (decide (r3 ≥ 0))))] (.cons rfl (.cons rfl (.cons rfl (.cons rfl (.cons rfl (.cons rfl .nil)))))) ?_
              refine hJ (decide (r3 ≥ 0)) _ _ ?_
              exact ⟨rfl, rfl⟩
            · refine wp_not (tj := 32) (b := false) rfl rfl (congrArg AV.bool hb2) rfl rfl ?_
              refine wp_not (tj := 32) (b := false) rfl rfl (congrArg AV.bool hb2) rfl rfl ?_
              refine wp_not (tj := 32) (b := false) rfl rfl (congrArg AV.bool hb2) rfl rfl ?_
              refine wp_not (tj := 32) (b := false) rfl rfl (congrArg AV.bool hb2) rfl rfl ?_
              refine wp_not (tj := 32) (b := false) rfl rfl (congrArg AV.bool hb2) rfl rfl ?_
              refine wp_not (tj := 32) (b := false) rfl rfl (congrArg AV.bool hb2) rfl rfl ?_
              refine wp_notE (tj := 32) (b := false) rfl rfl (congrArg AV.bool hb2) rfl rfl ?_
              refine wp_not (tj := 32) (b := false) rfl rfl (congrArg AV.bool hb2) rfl rfl ?_
              refine wp_valg (tj := 29) (.bool false) rfl rfl (congrArg AV.bool hb1) rfl (pv_pick (t := false) (congrArg AV.bool hb2) rfl) ?_
              refine wp_val (.bool false) rfl rfl (pv_pick (t := false) (congrArg AV.bool hb1) rfl) ?_
              refine wp_nil ?_
              refine wr_drop [none] hI rfl (.drop .nil) ?_
              refine wr_is [(0, (.int .i64 many)), (1, (.sl 3 (List.map rStatus l))), (10, (.sl 3 (List.map rStatus l))), (11, (.int .i64 (l.length : Int))), (12, (.int .i64 (j : Int))), (42, (.bool false))] (.cons rfl (.cons rfl (.cons rfl (.cons rfl (.cons rfl (.cons rfl .nil)))))) ?_
              refine hJ false _ _ ?_
              exact ⟨rfl, rfl⟩
    · rintro _ fr h ⟨rfl, rfl⟩
      refine wr_mod (alt_inl _ _ _) ?_
      refine wr_seq ?_
      refine wr_region ?_
      refine wo_val (.bool (decide ((l.length : Int) < (l.length : Int)))) rfl (pv_bin rfl rfl rfl) ?_
      refine wo_nil ?_
      refine wr_seq ?_
      refine wr_condF rfl (Int.lt_irrefl _) ?_
      refine wr_exit rfl ?_
      refine wr_seq ?_
      refine wr_region ?_
      refine wo_val (.int .i64 0) rfl pv_assign ?_
      refine wo_nil ?_
      exact wr_ret (a := 0) (vs := [(.int .i64 0)]) Try.func14 hI rfl (.same _)
  · refine wr_seq ?_
    refine wr_region ?_
    refine wo_val (.int .i64 260) rfl pv_assign ?_
    refine wo_nil ?_
    exact wr_ret (a := 260) (vs := [(.int .i64 260)]) Try.func14 hI rfl (.same _)

theorem cpo_slices_Clone_Status (s : List Status) : CPO Try.prog 22 [(.sl 3 (List.map rStatus s))] (slices_Clone_Status s) 3 rStatus := by
  refine cpo_intro (n := 8) 0 Try.func22 rfl (by decide) rfl rfl fun h0 ids hI => ?_
  refine wr_eq (slices_Clone_Status.eq_1 _) ?_
  refine wr_seq ?_
  refine wr_region ?_
  refine wo_val .emp rfl pv_assign ?_
  refine wo_nil ?_
  refine wr_seq ?_
  refine wr_seq ?_
  refine wr_region ?_
  refine wo_val (.sl 3 (List.map rStatus s)) rfl pv_move ?_
  refine wo_nilc (L := s) rfl ti22 rfl fun c hc => ?_
  refine wo_nil ?_
  by_cases hl : s.length * 24 ≤ LIM
  case neg => rw [if_neg hl]; exact wr_bad
  rw [if_pos hl]
  refine wr_cond c rfl ?_
  cases c with
  | true =>
    have hs := hc rfl
    subst hs
    refine wr_seq ?_
    refine wr_region ?_
    refine wo_val .emp rfl pv_assign ?_
    refine wo_nil ?_
    exact wr_retO (a := []) (v := .emp) (g := 0) Try.func22 hI rfl rfl .nil rfl
  | false =>
    refine wr_skip ?_
    refine wr_seq ?_
    refine wr_region ?_
    refine wo_bs0 rfl ti22 ti24 ?_
    refine wo_val (.sl 3 (List.map rStatus s)) rfl pv_move ?_
    refine wo_append (e := rStatus) (L := []) (L2 := s) (v := .emp) (g := 0) (st := 3) (j := 0) hI rfl rfl rfl rfl .nil rfl (src_sl rfl) ti22 ti22 rfl ti24 rfl rfl rfl (by simpa using hl) fun v g H => ?_
    refine wo_val v rfl pv_assign ?_
    refine wo_nil ?_
    exact wr_retO (a := s) (v := v) (g := g) Try.func22 hI rfl rfl H rfl
theorem cp_slices_Clone_Status (s : List Status) : CP Try.prog 22 [(.sl 3 (List.map rStatus s))] (slices_Clone_Status s) (fun x => .sl 3 (List.map rStatus x)) := (cpo_slices_Clone_Status s).cp (fun x => ok_Status x)

theorem cp_slices_BinarySearchFunc_Status_order (a : (List Status)) (target : Status) : CP Try.prog 23 [(.sl 3 (List.map rStatus a)), (.agg (rStatus target)), (.func (.func 24) [] [])] (slices_BinarySearchFunc_Status_order a target) (fun (p : (Int × Bool)) => AV.tup [(.int .i64 p.1), (.bool p.2)]) := by
  refine cp_intro (n := 49) 1 Try.func23 rfl (by decide) rfl rfl fun h0 ids hI => ?_
  refine wr_in (wr_mod (slices_BinarySearchFunc_Status_order.eq_1 _ _) ?_)
  refine wr_seq ?_
  refine wr_region ?_
  refine wo_box (v := (.agg (rStatus target))) (j := 0) hI rfl rfl rfl rfl rfl rfl rfl fun g => ?_
  refine wo_val (.int .i64 0) rfl pv_assign ?_
  refine wo_val (.bool false) rfl pv_assign ?_
  refine wo_nil ?_
  refine wr_hp [(some (.rows g 3 [(rStatus target)]))] rfl ?_
  refine wr_seq ?_
  refine wr_region ?_
  refine wo_val (.sl 3 (List.map rStatus a)) rfl pv_move ?_
  refine wo_val (.int .i64 (a.length : Int)) rfl (pv_len (len_sl ti22)) ?_
  refine wo_val (.int .i64 (a.length : Int)) rfl pv_assign ?_
  refine wo_nil ?_
  refine wr_seq ?_
  refine wr_region ?_
  refine wo_val (.int .i64 (a.length : Int)) rfl pv_move ?_
  refine wo_val (.int .i64 0) rfl pv_assign ?_
  refine wo_val (.int .i64 (a.length : Int)) rfl pv_assign ?_
  refine wo_nil ?_
  refine wr_seq ?_
  refine wf_join (fun i1 => slices_BinarySearchFunc_Status_order_j1 a target i1) (fun i1 => fun (fr : Nat → AV) (h : AHeap) => fr = frA [(0, (.sl 3 (List.map rStatus a))), (2, (.func (.func 24) [] [])), (4, (.ptr (ix ids 0) g 0 0)), (8, (.int .i64 (a.length : Int))), (9, (.int .i64 i1))] ∧ h = hp h0 ids [(some (.rows g 3 [(rStatus target)]))]) ?_ fun hJ => ?_
  · rintro i1 fr h ⟨rfl, rfl⟩
    refine wr_mod (slices_BinarySearchFunc_Status_order_j1.eq_1 _ _ _) ?_
    refine wr_seq ?_
    refine wr_draw hmix [[], [], [], [1, 2], [1, 2, 3], [1, 2, 3, 4], [1, 2, 3, 4], [1, 2, 3, 4], [1, 2, 3, 4, 6, 7], [1, 2, 3, 4, 6, 7, 8], [1, 2, 3, 4], [1, 2, 3, 4, 5, 6, 7, 8, 9, 10], [1, 2, 3, 4, 5, 6, 7, 8, 9, 10, 11], [1, 2, 3, 4, 5, 6, 7, 8, 9, 10, 11, 12], [0, 1, 2, 3, 4, 5, 6, 7, 8, 9, 10, 11], [0, 1, 2, 3, 4, 5, 6, 7, 8, 9, 10, 11, 12, 13, 13, 14, 14]] [(false, 0), (false, 1), (false, 2), (false, 3), (false, 4), (false, 5), (false, 6), (false, 7), (false, 8), (false, 9), (false, 10), (true, 11), (false, 12), (false, 13), (false, 14), (false, 15)] (by kernel_rfl) ?_
    refine wp_val (.int .i64 i1) rfl rfl pv_move ?_
    refine wp_val (.int .i64 i1) rfl rfl pv_move ?_
    refine wp_val (.int .i64 (a.length : Int)) rfl rfl pv_move ?_
    refine wp_val (.bool (decide (i1 < (a.length : Int)))) rfl rfl (pv_bin rfl rfl rfl) ?_
    refine wp_val (.bool (decide (i1 < (a.length : Int)))) rfl rfl pv_move ?_
    refine op_iteb (fun hb => ?_) (fun hb => ?_)
    · refine wp_valg (tj := 39) (.func (.func 24) [] []) rfl rfl (congrArg AV.bool hb) rfl pv_move ?_
      refine wp_valg (tj := 39) (.sl 3 (List.map rStatus a)) rfl rfl (congrArg AV.bool hb) rfl pv_move ?_
      refine wp_valg (tj := 39) (.int .i64 i1) rfl rfl (congrArg AV.bool hb) rfl pv_move ?_
      refine op_idx fun a2 hz1 hx2 => ?_
      refine wp_valg (tj := 39) (.cp (rStatus a2) 0) rfl rfl (congrArg AV.bool hb) rfl (pv_ixa (ixa_sl ti22 ti24 rfl hz1 hx2)) ?_
      refine wp_valg (tj := 39) (.agg (rStatus a2)) rfl rfl (congrArg AV.bool hb) rfl (pv_load (ld_cp ti24 rfl)) ?_
      refine wp_valg (tj := 39) (.agg (rStatus target)) rfl rfl (congrArg AV.bool hb) rfl (pv_load (ld_ptr hI rfl rfl rfl ti24 rfl)) ?_
      refine wp_call [(.agg (rStatus a2)), (.agg (rStatus target))] rfl (wanted_yes (tj := 39) rfl (congrArg AV.bool hb)) rfl rfl rfl ((cp_radar_order a2 target) _) (fun v _ _ _ => wu_pan Try.func23 hI) (pend_yes rfl (pend_yes rfl (pend_yes rfl (pend_yes rfl (pend_yes rfl (pend_yes rfl (pend_yes rfl (pend_yes rfl (pend_yes rfl (pend_yes rfl (pend_no rfl pv_move pend_nil))))))))))) fun r1 _ => ?_
      refine wp_valg (tj := 39) (.bool (r1 == 0)) rfl rfl (congrArg AV.bool hb) rfl (pv_bin rfl rfl rfl) ?_
      refine wp_val (.bool (r1 == 0)) rfl rfl (pv_pick (t := true) (congrArg AV.bool hb) rfl) ?_
      refine wp_val (.int .i64 i1) rfl rfl pv_assign ?_
      refine wp_val (.bool (r1 == 0)) rfl rfl pv_assign ?_
      refine wp_nil ?_
      exact wr_ret (a := (i1, (r1 == 0))) (vs := [(.int .i64 i1), (.bool (r1 == 0))]) Try.func23 hI rfl (.tupL (.cons (.same _) (.cons (.same _) .nil)))
    · refine wp_not (tj := 39) (b := false) rfl rfl (congrArg AV.bool hb) rfl rfl ?_
      refine wp_not (tj := 39) (b := false) rfl rfl (congrArg AV.bool hb) rfl rfl ?_
      refine wp_not (tj := 39) (b := false) rfl rfl (congrArg AV.bool hb) rfl rfl ?_
      refine wp_not (tj := 39) (b := false) rfl rfl (congrArg AV.bool hb) rfl rfl ?_
      refine wp_not (tj := 39) (b := false) rfl rfl (congrArg AV.bool hb) rfl rfl ?_
      refine wp_not (tj := 39) (b := false) rfl rfl (congrArg AV.bool hb) rfl rfl ?_
      refine wp_notE (tj := 39) (b := false) rfl rfl (congrArg AV.bool hb) rfl rfl ?_
      refine wp_not (tj := 39) (b := false) rfl rfl (congrArg AV.bool hb) rfl rfl ?_
      refine wp_val (.bool false) rfl rfl (pv_pick (t := false) (congrArg AV.bool hb) rfl) ?_
      refine wp_val (.int .i64 i1) rfl rfl pv_assign ?_
      refine wp_val (.bool false) rfl rfl pv_assign ?_
      refine wp_nil ?_
      exact wr_ret (a := (i1, false)) (vs := [(.int .i64 i1), (.bool false)]) Try.func23 hI rfl (.tupL (.cons (.same _) (.cons (.same _) .nil)))
  · refine wr_block ?_
    refine wr_is [(0, (.sl 3 (List.map rStatus a))), (2, (.func (.func 24) [] [])), (4, (.ptr (ix ids 0) g 0 0)), (8, (.int .i64 (a.length : Int))), (9, (.int .i64 0)), (10, (.int .i64 (a.length : Int)))] (.cons rfl (.cons rfl (.cons rfl (.cons rfl (.cons rfl (.cons rfl .nil)))))) ?_
    refine wf_loop' (P := Try.prog) (un2 fun i j => slices_BinarySearchFunc_Status_order_b1 a target i j) ((fun i1 => slices_BinarySearchFunc_Status_order_j1 a target i1) : Int → R (Int × Bool))
      (un2 fun i j => fun (fr : Nat → AV) (h : AHeap) => fr = frA [(0, (.sl 3 (List.map rStatus a))), (2, (.func (.func 24) [] [])), (4, (.ptr (ix ids 0) g 0 0)), (8, (.int .i64 (a.length : Int))), (9, (.int .i64 i)), (10, (.int .i64 j))] ∧ h = hp h0 ids [(some (.rows g 3 [(rStatus target)]))]) (0, (a.length : Int)) ?_ ?_
    · exact ⟨rfl, rfl⟩
    · rintro vW hW ⟨i, j⟩ fr h ⟨rfl, rfl⟩
      refine wr_mod (m' := slices_BinarySearchFunc_Status_order_b1 a target i j) rfl (wr_mod (slices_BinarySearchFunc_Status_order_b1.eq_1 _ _ _ _) ?_)
      refine wr_seq ?_
      refine wr_seq ?_
      refine wr_region ?_
      refine wo_val (.int .i64 i) rfl pv_move ?_
      refine wo_val (.int .i64 j) rfl pv_move ?_
      refine wo_val (.bool (decide (i < j))) rfl (pv_bin rfl rfl rfl) ?_
      refine wo_nil ?_
      refine wf_ite rfl (fun hc => ?_) (fun hc => ?_)
      · refine wr_skip ?_
        refine wr_block ?_
        refine wr_seq ?_
        refine wr_region ?_
        refine wo_val (.int .i64 i) rfl pv_move ?_
        refine wo_val (.int .i64 j) rfl pv_move ?_
        refine wo_val (.int .i64 (IntKind.wrap .i64 (i + j))) rfl (pv_bin rfl rfl rfl) ?_
        refine wo_val (.int .u64 (IntKind.wrap .u64 (IntKind.wrap .i64 (i + j)))) rfl (pv_conv (cv_int ti3 ti68)) ?_
        refine wo_val (.int .u64 (Int.fdiv (IntKind.wrap .u64 (IntKind.wrap .i64 (i + j))) 2)) rfl (pv_bin rfl rfl (bin_shr (by decide) (by decide))) ?_
        refine wo_val (.int .i64 (IntKind.wrap .i64 (Int.fdiv (IntKind.wrap .u64 (IntKind.wrap .i64 (i + j))) 2))) rfl (pv_conv (cv_int ti68 ti3)) ?_
        refine wo_val (.int .i64 (IntKind.wrap .i64 (Int.fdiv (IntKind.wrap .u64 (IntKind.wrap .i64 (i + j))) 2))) rfl pv_assign ?_
        refine wo_nil ?_
        refine wr_seq ?_
        refine wr_draw hmix [[], [], [], [1, 2], [1, 2, 3], [], [0, 1, 2, 3, 4, 5], [0, 1, 2, 3, 4, 5, 6]] [(false, 0), (false, 1), (false, 2), (false, 3), (false, 4), (false, 5), (true, 6), (false, 7)] (by kernel_rfl) ?_
        refine wp_val (.func (.func 24) [] []) rfl rfl pv_move ?_
        refine wp_val (.sl 3 (List.map rStatus a)) rfl rfl pv_move ?_
        refine wp_val (.int .i64 (IntKind.wrap .i64 (Int.fdiv (IntKind.wrap .u64 (IntKind.wrap .i64 (i + j))) 2))) rfl rfl pv_move ?_
        refine op_idx fun a1 hz hx1 => ?_
        refine wp_val (.cp (rStatus a1) 0) rfl rfl (pv_ixa (ixa_sl ti22 ti24 rfl hz hx1)) ?_
        refine wp_val (.agg (rStatus a1)) rfl rfl (pv_load (ld_cp ti24 rfl)) ?_
        refine wp_val (.agg (rStatus target)) rfl rfl (pv_load (ld_ptr hI rfl rfl rfl ti24 rfl)) ?_
        refine wp_call [(.agg (rStatus a1)), (.agg (rStatus target))] rfl rfl rfl rfl rfl ((cp_radar_order a1 target) _) (fun v _ _ _ => wu_pan Try.func23 hI) (pend_yes rfl (pend_yes rfl (pend_yes rfl (pend_yes rfl (pend_yes rfl (pend_yes rfl pend_nil)))))) fun r _ => ?_
        refine wp_val (.bool (decide (r < 0))) rfl rfl (pv_bin rfl rfl rfl) ?_
        refine wp_nil ?_
        refine wf_ite rfl (fun hc1 => ?_) (fun hc1 => ?_)
        · refine wr_region ?_
          refine wo_val (.int .i64 (IntKind.wrap .i64 (Int.fdiv (IntKind.wrap .u64 (IntKind.wrap .i64 (i + j))) 2))) rfl pv_move ?_
          refine wo_val (.int .i64 (IntKind.wrap .i64 ((IntKind.wrap .i64 (Int.fdiv (IntKind.wrap .u64 (IntKind.wrap .i64 (i + j))) 2)) + 1))) rfl (pv_bin rfl rfl rfl) ?_
          refine wo_val (.int .i64 (IntKind.wrap .i64 ((IntKind.wrap .i64 (Int.fdiv (IntKind.wrap .u64 (IntKind.wrap .i64 (i + j))) 2)) + 1))) rfl pv_assign ?_
          refine wo_nil ?_
          refine wr_inBlock ?_
          refine wr_is [(0, (.sl 3 (List.map rStatus a))), (2, (.func (.func 24) [] [])), (4, (.ptr (ix ids 0) g 0 0)), (8, (.int .i64 (a.length : Int))), (9, (.int .i64 (IntKind.wrap .i64 ((IntKind.wrap .i64 (Int.fdiv (IntKind.wrap .u64 (IntKind.wrap .i64 (i + j))) 2)) + 1)))), (10, (.int .i64 j))] (.cons rfl (.cons rfl (.cons rfl (.cons rfl (.cons rfl (.cons rfl .nil)))))) ?_
          refine wb_loop ?_
          refine hW ((IntKind.wrap .i64 ((IntKind.wrap .i64 (Int.fdiv (IntKind.wrap .u64 (IntKind.wrap .i64 (i + j))) 2)) + 1)), j) _ _ ?_
          exact ⟨rfl, rfl⟩
        · refine wr_region ?_
          refine wo_val (.int .i64 (IntKind.wrap .i64 (Int.fdiv (IntKind.wrap .u64 (IntKind.wrap .i64 (i + j))) 2))) rfl pv_move ?_
          refine wo_val (.int .i64 (IntKind.wrap .i64 (Int.fdiv (IntKind.wrap .u64 (IntKind.wrap .i64 (i + j))) 2))) rfl pv_assign ?_
          refine wo_nil ?_
          refine wr_inBlock ?_
          refine wr_is [(0, (.sl 3 (List.map rStatus a))), (2, (.func (.func 24) [] [])), (4, (.ptr (ix ids 0) g 0 0)), (8, (.int .i64 (a.length : Int))), (9, (.int .i64 i)), (10, (.int .i64 (IntKind.wrap .i64 (Int.fdiv (IntKind.wrap .u64 (IntKind.wrap .i64 (i + j))) 2))))] (.cons rfl (.cons rfl (.cons rfl (.cons rfl (.cons rfl (.cons rfl .nil)))))) ?_
          refine wb_loop ?_
          refine hW (i, (IntKind.wrap .i64 (Int.fdiv (IntKind.wrap .u64 (IntKind.wrap .i64 (i + j))) 2))) _ _ ?_
          exact ⟨rfl, rfl⟩
      · refine wr_exit rfl ?_
        refine wx_loop ?_
        refine wr_is [(0, (.sl 3 (List.map rStatus a))), (2, (.func (.func 24) [] [])), (4, (.ptr (ix ids 0) g 0 0)), (8, (.int .i64 (a.length : Int))), (9, (.int .i64 i))] (.cons rfl (.cons rfl (.cons rfl (.cons rfl (.cons rfl .nil))))) ?_
        refine hJ i _ _ ?_
        exact ⟨rfl, rfl⟩

theorem cg_slices_Insert_25 (i : Int) (l : List Status) (l2 : List Status) (h0 : AHeap) (o0 o1 : Nat) (v : AV) (g : Nat) (v2 : AV) (g2 : Nat) (hv : OwnV v o0 g l.length) (hv2 : OwnV v2 o1 g2 l2.length) (hI0 : Ids h0 [o0, o1] 2) : slices_Insert_25 i l l2 ≠ .bad → ACalls Try.prog 25 [v, .int .i64 i, v2] (hp h0 [o0, o1] [ownO v g 3 (l.map rStatus), ownO v2 g2 3 (l2.map rStatus)]) (AnsG (fun a_ v' h' => v' = (.sl 3 (a_.map rStatus)) ∧ h' = hp h0 [o0, o1] [none, none]) h0 (slices_Insert_25 i l l2)) :=
  insert_calls (fun x => ok_Status x) (by decide) (by decide) hI0 (.mk Try.func25 rfl (by decide)) hv hv2 Go.Proofs.Try.insert25_shift Go.Proofs.Try.insert25_grow Go.Proofs.Try.insert25_end_room Go.Proofs.Try.insert25_end_grow0 rfl

theorem cp_radar_Add (many : Int) (l : (List Status)) (s : Status) : CP Try.prog 11 [(.int .i64 many), (.sl 3 (List.map rStatus l)), (.agg (rStatus s))] (radar_Add many l s) (fun (p : ((List Status) × Int)) => AV.tup [(.sl 3 (List.map rStatus p.1)), (.int .i64 p.2)]) := by
  refine cp_intro (n := 44) 3 Try.func11 rfl (by decide) rfl rfl fun h0 ids hI => ?_
  refine wr_in (wr_mod (radar_Add.eq_1 _ _ _) ?_)
  refine wr_seq ?_
  refine wr_region ?_
  refine wo_box (v := (.agg (rStatus s))) (j := 0) hI rfl rfl rfl rfl rfl rfl rfl fun g => ?_
  refine wo_val .emp rfl pv_assign ?_
  refine wo_val (.int .i64 0) rfl pv_assign ?_
  refine wo_nil ?_
  refine wr_hp [(some (.rows g 3 [(rStatus s)])), none, none] rfl ?_
  refine wr_seq ?_
  refine wr_seq ?_
  refine wr_region ?_
  refine wo_val (.int .i64 many) rfl pv_move ?_
  refine wo_val (.sl 3 (List.map rStatus l)) rfl pv_move ?_
  refine of_call [(.int .i64 many), (.sl 3 (List.map rStatus l))] rfl rfl rfl rfl ((cp_radar_Check many l) _) (fun v _ => wu_pan Try.func11 hI) fun e _ => ?_
  refine wo_val (.int .i64 e) rfl pv_assign ?_
  refine wo_nil ?_
  refine wr_seq ?_
  refine wr_region ?_
  refine wo_val (.int .i64 e) rfl pv_move ?_
  refine wo_val (.bool (e != 0)) rfl (pv_bin rfl rfl rfl) ?_
  refine wo_nil ?_
  refine wf_iteb rfl (fun hc => ?_) (fun hc => ?_)
  · refine wr_seq ?_
    refine wr_region ?_
    refine wo_val (.int .i64 e) rfl pv_move ?_
    refine wo_val .emp rfl pv_assign ?_
    refine wo_val (.int .i64 e) rfl pv_assign ?_
    refine wo_nil ?_
    exact wr_ret (a := ([], e)) (vs := [.emp, (.int .i64 e)]) Try.func11 hI rfl (.tupL (.cons (.emp _) (.cons (.same _) .nil)))
  · refine wr_skip ?_
    refine wr_seq ?_
    refine wr_seq ?_
    refine wr_region ?_
    refine wo_val (.int .i64 many) rfl pv_move ?_
    refine wo_val (.agg (rStatus s)) rfl (pv_load (ld_ptr hI rfl rfl rfl ti24 rfl)) ?_
    refine wo_bsC (e := rStatus) (L := [s]) (st := 3) (rows := [[(.int .i64 s.Station), (.int .i64 s.From), (.bool s.Works)]]) rfl ti22 ti24 rfl rfl rfl rfl rfl (.cons (RowSim.refl _) .nil) (fun x => ok_Status x) rfl rfl ?_
    refine of_call [(.int .i64 many), (.sl 3 (List.map rStatus [s]))] rfl rfl rfl rfl ((cp_radar_Check many [s]) _) (fun v _ => wu_pan Try.func11 hI) fun e1 _ => ?_
    refine wo_val (.int .i64 e1) rfl pv_assign ?_
    refine wo_nil ?_
    refine wr_seq ?_
    refine wr_region ?_
    refine wo_val (.int .i64 e1) rfl pv_move ?_
    refine wo_val (.bool (e1 != 0)) rfl (pv_bin rfl rfl rfl) ?_
    refine wo_nil ?_
    refine wf_iteb rfl (fun hc1 => ?_) (fun hc1 => ?_)
    · refine wr_seq ?_
      refine wr_region ?_
      refine wo_val (.int .i64 e1) rfl pv_move ?_
      refine wo_val .emp rfl pv_assign ?_
      refine wo_val (.int .i64 e1) rfl pv_assign ?_
      refine wo_nil ?_
      exact wr_ret (a := ([], e1)) (vs := [.emp, (.int .i64 e1)]) Try.func11 hI rfl (.tupL (.cons (.emp _) (.cons (.same _) .nil)))
    · refine wr_skip ?_
      refine wr_seq ?_
      refine wr_region ?_
      refine wo_val (.sl 3 (List.map rStatus l)) rfl pv_move ?_
      refine of_callO (j := 1) [(.sl 3 (List.map rStatus l))] hI rfl rfl rfl rfl rfl rfl ((cpo_slices_Clone_Status l) _ _ (hI.at rfl rfl)) (fun v _ => wu_pan Try.func11 hI) fun r _ v g1 vH => ?_
      refine wo_val v rfl pv_assign ?_
      refine wo_nil ?_
      refine wr_hp [(some (.rows g 3 [(rStatus s)])), (ownO v g1 3 (List.map rStatus r)), none] rfl ?_
      refine wr_seq ?_
      refine wr_region ?_
      refine wo_val v rfl pv_move ?_
      refine wo_val (.agg (rStatus s)) rfl (pv_load (ld_ptr hI rfl rfl rfl ti24 rfl)) ?_
      refine of_call [v, (.agg (rStatus s)), (.func (.func 24) [] [])] rfl rfl rfl rfl (CP.lend (cp_slices_BinarySearchFunc_Status_order r s) (LF.lfz (.cons (own_fz vH (hI.at rfl rfl) rfl (fun x => ok_Status x)) (.cons (.same _) (.cons (.funcL .nil .nil) .nil)))) (fun _ _ => (.tup2 (.int _ _) (.bool _)))) (fun v _ => wu_pan Try.func11 hI) fun r1 _ => ?_
      refine wo_val (.tup [(.int .i64 r1.1), (.bool r1.2)]) rfl pv_move ?_
      refine wo_val (.int .i64 r1.1) rfl (pv_ext rfl) ?_
      refine wo_val (.bool r1.2) rfl (pv_ext rfl) ?_
      refine wo_val (.int .i64 r1.1) rfl pv_assign ?_
      refine wo_val (.bool r1.2) rfl pv_assign ?_
      refine wo_nil ?_
      refine wr_seq ?_
      refine wr_seq ?_
      refine wr_region ?_
      refine wo_val (.bool r1.2) rfl pv_move ?_
      refine wo_nil ?_
      refine wf_iteb rfl (fun hc2 => ?_) (fun hc2 => ?_)
      · refine wr_seq ?_
        refine wr_region ?_
        refine wo_val v rfl pv_move ?_
        refine wo_val (.int .i64 r1.1) rfl pv_move ?_
        refine wo_val (.agg (rStatus s)) rfl (pv_load (ld_ptr hI rfl rfl rfl ti24 rfl)) ?_
        refine of_idx fun a hz hx1 => ?_
        refine wo_val (.ptr (ix ids 1) g1 r1.1.toNat 0) rfl (pv_ixa (ixa_own hI rfl vH rfl ti22 ti24 rfl hz hx1)) ?_
        refine wo_store (st_own (y := s) hI rfl rfl vH rfl hx1 ti24 rfl rfl rfl rfl rfl rfl) ?_
        have vH1 := OwnV.set (i := r1.1.toNat) (y := s) vH
        have hx2 := List.getElem?_set_self (a := s) (lt_of_get hx1)
        refine wo_nil ?_
        refine wr_hp [(some (.rows g 3 [(rStatus s)])), (ownO v g1 3 (List.map rStatus (r.set r1.1.toNat s))), none] rfl ?_
        refine wr_seq ?_
        refine wr_region ?_
        refine wo_val v rfl pv_move ?_
        refine wo_val v rfl pv_assign ?_
        refine wo_val (.int .i64 0) rfl pv_assign ?_
        refine wo_nil ?_
        exact wr_ret (a := ((r.set r1.1.toNat s), 0)) (vs := [v, (.int .i64 0)]) Try.func11 hI rfl (.tupL (.cons (own_fz vH1 (hI.at rfl rfl) (hI.out rfl) (fun x => ok_Status x)) (.cons (.same _) .nil)))
      · refine wr_skip ?_
        refine wr_seq ?_
        refine wr_region ?_
        refine wo_val v rfl pv_move ?_
        refine wo_val (.int .i64 r1.1) rfl pv_move ?_
        refine wo_val (.agg (rStatus s)) rfl (pv_load (ld_ptr hI rfl rfl rfl ti24 rfl)) ?_
        refine wo_bs (e := rStatus) (L := [s]) (st := 3) (j := 2) (rows := [[(.int .i64 s.Station), (.int .i64 s.From), (.bool s.Works)]]) hI rfl rfl rfl rfl ti22 ti24 rfl rfl rfl rfl rfl (.cons (RowSim.refl _) .nil) (fun x => ok_Status x) rfl rfl rfl fun v1 g2 vH2 => ?_
        refine of_callG [1, 2] hI rfl rfl (cg_slices_Insert_25 r1.1 r [s] _ (ix ids 1) (ix ids 2) v g1 v1 g2 vH vH2 (by exact hI.sub' rfl rfl)) rfl rfl rfl rfl rfl rfl (fun v _ => wu_pan Try.func11 hI) ?_
        rintro r2 _ _ _ ⟨rfl, rfl⟩
        refine wo_putH [1, 2] [some (.rows g 3 [(rStatus s)]), none, none] hI rfl rfl rfl rfl ?_
        refine wo_put1 ?_
        refine wo_val (.sl 3 (List.map rStatus r2)) rfl pv_assign ?_
        refine wo_val (.int .i64 0) rfl pv_assign ?_
        refine wo_nil ?_
        refine wr_hp [(some (.rows g 3 [(rStatus s)])), none, none] rfl ?_
        exact wr_ret (a := (r2, 0)) (vs := [(.sl 3 (List.map rStatus r2)), (.int .i64 0)]) Try.func11 hI rfl (.tupL (.cons (.same _) (.cons (.same _) .nil)))

theorem cp_reports_within_c1 (a : T74) : CP Try.prog 48 [(.agg (rT74 a))] (reports_within_c1 a) (fun (x : Bool) => (AV.bool x)) := by
  refine cp_intro (n := 15) 1 Try.func48 rfl (by decide) rfl rfl fun h0 ids hI => ?_
  refine wr_in (wr_mod (reports_within_c1.eq_1 _) ?_)
  refine wr_seq ?_
  refine wr_region ?_
  refine wo_box (v := (.agg (rT74 a))) (j := 0) hI rfl rfl rfl rfl rfl rfl rfl fun g => ?_
  refine wo_val (.bool false) rfl pv_assign ?_
  refine wo_nil ?_
  refine wr_hp [(some (.rows g 3 [(rT74 a)]))] rfl ?_
  refine wr_seq ?_
  refine wr_region ?_
  refine wo_val (.ptr (ix ids 0) g 0 0) rfl (pv_fa (fa_ptr (c := 0) (off := 0) (i := 0) ti75 rfl ti3 rfl)) ?_
  refine wo_val (.int .i64 a.fN) rfl (pv_load (ld_ptr hI rfl rfl rfl ti3 rfl)) ?_
  refine wo_val (.ptr (ix ids 0) g 0 1) rfl (pv_fa (fa_ptr (c := 0) (off := 1) (i := 1) ti75 rfl ti3 rfl)) ?_
  refine wo_val (.int .i64 a.fLeast) rfl (pv_load (ld_ptr hI rfl rfl rfl ti3 rfl)) ?_
  refine wo_val (.bool (decide (a.fN < a.fLeast))) rfl (pv_bin rfl rfl rfl) ?_
  refine wo_val (.bool (decide (a.fN < a.fLeast))) rfl pv_move ?_
  refine wo_meet 6 [(14, (.bool ((decide (a.fN < a.fLeast)) || (decide (a.fN > a.fMost)))))] ?_ fun hJ => wo_cases (decide (a.fN < a.fLeast)) (fun hb1 => ?_) (fun hb1 => ?_)
  · refine wo_val (.bool ((decide (a.fN < a.fLeast)) || (decide (a.fN > a.fMost)))) rfl pv_assign ?_
    refine wo_nil ?_
    exact wr_ret (a := ((decide (a.fN < a.fLeast)) || (decide (a.fN > a.fMost)))) (vs := [(.bool ((decide (a.fN < a.fLeast)) || (decide (a.fN > a.fMost))))]) Try.func48 hI rfl (.same _)
  · refine wo_not (tj := 8) (b := true) rfl (congrArg AV.bool hb1) rfl rfl ?_
    refine wo_not (tj := 8) (b := true) rfl (congrArg AV.bool hb1) rfl rfl ?_
    refine wo_not (tj := 8) (b := true) rfl (congrArg AV.bool hb1) rfl rfl ?_
    refine wo_not (tj := 8) (b := true) rfl (congrArg AV.bool hb1) rfl rfl ?_
    refine wo_not (tj := 8) (b := true) rfl (congrArg AV.bool hb1) rfl rfl ?_
    refine wo_val (.bool true) rfl (pv_pick (t := true) (congrArg AV.bool hb1) rfl) ?_
    exact wo_is [(14, (.bool ((decide (a.fN < a.fLeast)) || (decide (a.fN > a.fMost)))))] (.cons (or_t hb1) .nil) hJ
  · refine wo_valg (tj := 8) (.ptr (ix ids 0) g 0 0) rfl (congrArg AV.bool hb1) rfl (pv_fa (fa_ptr (c := 0) (off := 0) (i := 0) ti75 rfl ti3 rfl)) ?_
    refine wo_valg (tj := 8) (.int .i64 a.fN) rfl (congrArg AV.bool hb1) rfl (pv_load (ld_ptr hI rfl rfl rfl ti3 rfl)) ?_
    refine wo_valg (tj := 8) (.ptr (ix ids 0) g 0 2) rfl (congrArg AV.bool hb1) rfl (pv_fa (fa_ptr (c := 0) (off := 2) (i := 2) ti75 rfl ti3 rfl)) ?_
    refine wo_valg (tj := 8) (.int .i64 a.fMost) rfl (congrArg AV.bool hb1) rfl (pv_load (ld_ptr hI rfl rfl rfl ti3 rfl)) ?_
    refine wo_valg (tj := 8) (.bool (decide (a.fN > a.fMost))) rfl (congrArg AV.bool hb1) rfl (pv_bin rfl rfl rfl) ?_
    refine wo_val (.bool (decide (a.fN > a.fMost))) rfl (pv_pick (t := false) (congrArg AV.bool hb1) rfl) ?_
    exact wo_is [(14, (.bool ((decide (a.fN < a.fLeast)) || (decide (a.fN > a.fMost)))))] (.cons (or_f hb1) .nil) hJ

theorem cp_slices_IndexFunc_limit_c1 (s : (List T74)) : CP Try.prog 53 [(.sl 3 (List.map rT74 s)), (.func (.func 48) [] [])] (slices_IndexFunc_limit_c1 s) (fun (x : Int) => (AV.int .i64 x)) := by
  refine cp_intro (n := 19) 0 Try.func53 rfl (by decide) rfl rfl fun h0 ids hI => ?_
  refine wr_in (wr_mod (slices_IndexFunc_limit_c1.eq_1 _) ?_)
  refine wr_seq ?_
  refine wr_region ?_
  refine wo_val (.int .i64 0) rfl pv_assign ?_
  refine wo_nil ?_
  refine wr_seq ?_
  refine wr_seq ?_
  refine wr_region ?_
  refine wo_val (.sl 3 (List.map rT74 s)) rfl pv_move ?_
  refine wo_val (.int .i64 (s.length : Int)) rfl (pv_len (len_sl ti83)) ?_
  refine wo_val (.int .i64 0) rfl pv_move ?_
  refine wo_nil ?_
  refine wr_block ?_
  refine wr_is [(0, (.sl 3 (List.map rT74 s))), (1, (.func (.func 48) [] [])), (7, (.int .i64 (s.length : Int))), (8, (.int .i64 0))] (.cons rfl (.cons rfl (.cons rfl (.cons rfl .nil)))) ?_
  refine wf_each' (P := Try.prog) s (fun j a => fun _ => slices_IndexFunc_limit_c1_b1 j a) ((alt (fun _ => .ok (-1)) (fun r => .ok r)) : (Unit ⊕ Int) → R Int)
    (fun j => fun _ => fun (fr : Nat → AV) (h : AHeap) => fr = frA [(0, (.sl 3 (List.map rT74 s))), (1, (.func (.func 48) [] [])), (7, (.int .i64 (s.length : Int))), (8, (.int .i64 (j : Int)))] ∧ h = hp h0 ids []) () ?_ ?_ ?_
  · exact ⟨rfl, rfl⟩
  · rintro j a ha W hW _ fr h ⟨rfl, rfl⟩
    refine wr_mod (m' := slices_IndexFunc_limit_c1_b1 j a) rfl (wr_mod (slices_IndexFunc_limit_c1_b1.eq_1 _ _) ?_)
    refine wr_seq ?_
    refine wr_region ?_
    refine wo_val (.bool (decide ((j : Int) < (s.length : Int)))) rfl (pv_bin rfl rfl rfl) ?_
    refine wo_nil ?_
    refine wr_seq ?_
    refine wr_lim (t := 0) (L := s) rfl fun hlim => ?_
    refine wr_condT rfl (Int.ofNat_lt.2 (lt_of_get ha)) ?_
    refine wr_skip ?_
    refine wr_seq ?_
    refine wr_block ?_
    refine wr_seq ?_
    refine wr_region ?_
    refine wo_val (.int .i64 (j : Int)) rfl pv_move ?_
    refine wo_val (.int .i64 (j : Int)) rfl pv_assign ?_
    refine wo_nil ?_
    refine wr_seq ?_
    refine wr_region ?_
    refine wo_val (.func (.func 48) [] []) rfl pv_move ?_
    refine wo_val (.sl 3 (List.map rT74 s)) rfl pv_move ?_
    refine wo_val (.int .i64 (j : Int)) rfl pv_move ?_
    refine wo_val (.cp (rT74 a) 0) rfl (pv_ixa (ixa_nat ti83 ti75 rfl ha)) ?_
    refine wo_val (.agg (rT74 a)) rfl (pv_load (ld_cp ti75 rfl)) ?_
    refine of_call [(.agg (rT74 a))] rfl rfl rfl rfl ((cp_reports_within_c1 a) _) (fun v _ => wu_pan Try.func53 hI) fun r _ => ?_
    refine wo_nil ?_
    refine wf_iteb rfl (fun hc => ?_) (fun hc => ?_)
    · refine wr_seq ?_
      refine wr_region ?_
      refine wo_val (.int .i64 (j : Int)) rfl pv_move ?_
      refine wo_val (.int .i64 (j : Int)) rfl pv_assign ?_
      refine wo_nil ?_
      refine wx_each ?_
      refine w_altr ?_
      exact wr_ret (a := (j : Int)) (vs := [(.int .i64 (j : Int))]) Try.func53 hI rfl (.same _)
    · refine wr_skip ?_
      refine wr_inBlock ?_
      refine wr_region ?_
      refine wo_val (.int .i64 (IntKind.wrap .i64 ((j : Int) + 1))) rfl (pv_bin rfl rfl rfl) ?_
      refine wo_val (.int .i64 (IntKind.wrap .i64 ((j : Int) + 1))) rfl pv_move ?_
      refine wo_nil ?_
      refine wr_is [(0, (.sl 3 (List.map rT74 s))), (1, (.func (.func 48) [] [])), (7, (.int .i64 (s.length : Int))), (8, (.int .i64 ((j + 1 : Nat) : Int)))] (.cons rfl (.cons rfl (.cons rfl (.cons (inc_ok (lt_of_get ha) hlim) .nil)))) ?_
      refine wb_each ?_
      refine hW () _ _ ?_
      exact ⟨rfl, rfl⟩
  · rintro _ fr h ⟨rfl, rfl⟩
    refine wr_mod (alt_inl _ _ _) ?_
    refine wr_seq ?_
    refine wr_region ?_
    refine wo_val (.bool (decide ((s.length : Int) < (s.length : Int)))) rfl (pv_bin rfl rfl rfl) ?_
    refine wo_nil ?_
    refine wr_seq ?_
    refine wr_condF rfl (Int.lt_irrefl _) ?_
    refine wr_exit rfl ?_
    refine wr_seq ?_
    refine wr_region ?_
    refine wo_val (.int .i64 (-1)) rfl pv_assign ?_
    refine wo_nil ?_
    exact wr_ret (a := (-1)) (vs := [(.int .i64 (-1))]) Try.func53 hI rfl (.same _)

theorem cp_slices_ContainsFunc_limit_c1 (s : (List T74)) : CP Try.prog 47 [(.sl 3 (List.map rT74 s)), (.func (.func 48) [] [])] (slices_ContainsFunc_limit_c1 s) (fun (x : Bool) => (AV.bool x)) := by
  refine cp_intro (n := 9) 0 Try.func47 rfl (by decide) rfl rfl fun h0 ids hI => ?_
  refine wr_in (wr_mod (slices_ContainsFunc_limit_c1.eq_1 _) ?_)
  refine wr_seq ?_
  refine wr_region ?_
  refine wo_val (.bool false) rfl pv_assign ?_
  refine wo_nil ?_
  refine wr_seq ?_
  refine wr_region ?_
  refine wo_val (.sl 3 (List.map rT74 s)) rfl pv_move ?_
  refine wo_val (.func (.func 48) [] []) rfl pv_move ?_
  refine of_call [(.sl 3 (List.map rT74 s)), (.func (.func 48) [] [])] rfl rfl rfl rfl ((cp_slices_IndexFunc_limit_c1 s) _) (fun v _ => wu_pan Try.func47 hI) fun r _ => ?_
  refine wo_val (.bool (decide (r ≥ 0))) rfl (pv_bin rfl rfl rfl) ?_
  refine wo_val (.bool (decide (r ≥ 0))) rfl pv_assign ?_
  refine wo_nil ?_
  exact wr_ret (a := (decide (r ≥ 0))) (vs := [(.bool (decide (r ≥ 0)))]) Try.func47 hI rfl (.same _)

theorem cp_reports_within (l : (List T74)) : CP Try.prog 38 [(.sl 3 (List.map rT74 l))] (reports_within l) (fun (x : Bool) => (AV.bool x)) := by
  refine cp_intro (n := 6) 0 Try.func38 rfl (by decide) rfl rfl fun h0 ids hI => ?_
  refine wr_in (wr_mod (reports_within.eq_1 _) ?_)
  refine wr_seq ?_
  refine wr_region ?_
  refine wo_val (.bool false) rfl pv_assign ?_
  refine wo_nil ?_
  refine wr_seq ?_
  refine wr_region ?_
  refine wo_val (.sl 3 (List.map rT74 l)) rfl pv_move ?_
  refine of_call [(.sl 3 (List.map rT74 l)), (.func (.func 48) [] [])] rfl rfl rfl rfl ((cp_slices_ContainsFunc_limit_c1 l) _) (fun v _ => wu_pan Try.func38 hI) fun r _ => ?_
  refine wo_val (.bool (!r)) rfl (pv_un rfl) ?_
  refine wo_val (.bool (!r)) rfl pv_assign ?_
  refine wo_nil ?_
  exact wr_ret (a := (!r)) (vs := [(.bool (!r))]) Try.func38 hI rfl (.same _)

theorem cp_reports_Station (volumes : Int) (s : Station) : CP Try.prog 29 [(.int .i64 volumes), (.agg (rStation s))] (reports_Station volumes s) (fun (x : Int) => (AV.int .i64 x)) := by
  refine cp_intro (n := 42) 1 Try.func29 rfl (by decide) rfl rfl fun h0 ids hI => ?_
  refine wr_in (wr_mod (reports_Station.eq_1 _ _) ?_)
  refine wr_seq ?_
  refine wr_region ?_
  refine wo_box (v := (.agg (rStation s))) (j := 0) hI rfl rfl rfl rfl rfl rfl rfl fun g => ?_
  refine wo_val (.int .i64 0) rfl pv_assign ?_
  refine wo_nil ?_
  refine wr_hp [(some (.rows g 3 [(rStation s)]))] rfl ?_
  refine wr_seq ?_
  refine wr_seq ?_
  refine wr_region ?_
  refine wo_val (.int .i64 volumes) rfl pv_move ?_
  refine wo_val (.agg [(.int .i64 volumes), (.int .i64 1), (.int .i64 64)]) rfl (pv_build (bd_st ti75 pl75 rfl)) ?_
  refine wo_val (.ptr (ix ids 0) g 0 1) rfl (pv_fa (fa_ptr (c := 0) (off := 1) (i := 1) ti38 rfl ti3 rfl)) ?_
  refine wo_val (.int .i64 s.Shift) rfl (pv_load (ld_ptr hI rfl rfl rfl ti3 rfl)) ?_
  refine wo_val (.agg [(.int .i64 s.Shift), (.int .i64 0), (.int .i64 3)]) rfl (pv_build (bd_st ti75 pl75 rfl)) ?_
  refine wo_val (.ptr (ix ids 0) g 0 2) rfl (pv_fa (fa_ptr (c := 0) (off := 2) (i := 2) ti38 rfl ti3 rfl)) ?_
  refine wo_val (.int .i64 s.Faults) rfl (pv_load (ld_ptr hI rfl rfl rfl ti3 rfl)) ?_
  refine wo_val (.agg [(.int .i64 s.Faults), (.int .i64 0), (.int .i64 3)]) rfl (pv_build (bd_st ti75 pl75 rfl)) ?_
  refine wo_bsC (e := rT74) (L := [({ fN := volumes, fLeast := 1, fMost := 64 } : T74), ({ fN := s.Shift, fLeast := 0, fMost := 3 } : T74), ({ fN := s.Faults, fLeast := 0, fMost := 3 } : T74)]) (st := 3) (rows := [[(.int .i64 volumes), (.int .i64 1), (.int .i64 64)], [(.int .i64 s.Shift), (.int .i64 0), (.int .i64 3)], [(.int .i64 s.Faults), (.int .i64 0), (.int .i64 3)]]) rfl ti83 ti75 rfl rfl rfl rfl rfl (.cons (.cons (.same _) (.cons (.same _) (.cons (.same _) .nil))) (.cons (.cons (.same _) (.cons (.same _) (.cons (.same _) .nil))) (.cons (.cons (.same _) (.cons (.same _) (.cons (.same _) .nil))) .nil))) (fun x => ok_T74 x) rfl rfl ?_
  refine of_call [(.sl 3 (List.map rT74 [({ fN := volumes, fLeast := 1, fMost := 64 } : T74), ({ fN := s.Shift, fLeast := 0, fMost := 3 } : T74), ({ fN := s.Faults, fLeast := 0, fMost := 3 } : T74)]))] rfl rfl rfl rfl ((cp_reports_within [({ fN := volumes, fLeast := 1, fMost := 64 } : T74), ({ fN := s.Shift, fLeast := 0, fMost := 3 } : T74), ({ fN := s.Faults, fLeast := 0, fMost := 3 } : T74)]) _) (fun v _ => wu_pan Try.func29 hI) fun r _ => ?_
  refine wo_val (.bool (!r)) rfl (pv_un rfl) ?_
  refine wo_val (.bool (!r)) rfl pv_move ?_
  refine wo_meet 5 [(0, (.int .i64 volumes)), (3, (.ptr (ix ids 0) g 0 0)), (24, (.bool ((!r) || ((s.Volumes.length : Int) == 0))))] ?_ fun hJ => wo_cases (!r) (fun hb1 => ?_) (fun hb1 => ?_)
  · refine wo_nil ?_
    refine wf_iteb rfl (fun hc => ?_) (fun hc => ?_)
    · refine wr_seq ?_
      refine wr_region ?_
      refine wo_val (.int .i64 220) rfl pv_assign ?_
      refine wo_nil ?_
      exact wr_ret (a := 220) (vs := [(.int .i64 220)]) Try.func29 hI rfl (.same _)
    · refine wr_skip ?_
      refine wr_seq ?_
      refine wr_region ?_
      refine wo_val (.int .i64 (-1)) rfl pv_assign ?_
      refine wo_nil ?_
      refine wr_seq ?_
      refine wr_seq ?_
      refine wr_region ?_
      refine wo_val (.ptr (ix ids 0) g 0 0) rfl (pv_fa (fa_ptr (c := 0) (off := 0) (i := 0) ti38 rfl ti36 rfl)) ?_
      refine wo_val (.sl 1 (List.map (rI .i64) s.Volumes)) rfl (pv_load (ld_ptr hI rfl rfl rfl ti36 rfl)) ?_
      refine wo_val (.int .i64 (s.Volumes.length : Int)) rfl (pv_len (len_sl ti36)) ?_
      refine wo_val (.int .i64 0) rfl pv_move ?_
      refine wo_nil ?_
      refine wr_block ?_
      refine wr_drop [none] hI rfl (.drop .nil) ?_
      refine wr_is [(0, (.int .i64 volumes)), (5, (.int .i64 (-1))), (26, (.sl 1 (List.map (rI .i64) s.Volumes))), (27, (.int .i64 (s.Volumes.length : Int))), (28, (.int .i64 0))] (.cons rfl (.cons rfl (.cons rfl (.cons rfl (.cons rfl .nil))))) ?_
      refine wf_each' (P := Try.prog) s.Volumes (fun _ a => fun last => reports_Station_b1 volumes a last) ((alt (fun last => .ok 0) (fun r => .ok r)) : (Int ⊕ Int) → R Int)
        (fun j => fun last => fun (fr : Nat → AV) (h : AHeap) => fr = frA [(0, (.int .i64 volumes)), (5, (.int .i64 last)), (26, (.sl 1 (List.map (rI .i64) s.Volumes))), (27, (.int .i64 (s.Volumes.length : Int))), (28, (.int .i64 (j : Int)))] ∧ h = hp h0 ids [none]) (-1) ?_ ?_ ?_
      · exact ⟨rfl, rfl⟩
      · rintro j a ha W hW last fr h ⟨rfl, rfl⟩
        refine wr_mod (m' := reports_Station_b1 volumes a last) rfl (wr_mod (reports_Station_b1.eq_1 _ _ _) ?_)
        refine wr_seq ?_
        refine wr_region ?_
        refine wo_val (.bool (decide ((j : Int) < (s.Volumes.length : Int)))) rfl (pv_bin rfl rfl rfl) ?_
        refine wo_nil ?_
        refine wr_seq ?_
        refine wr_lim (t := 26) (L := s.Volumes) rfl fun hlim => ?_
        refine wr_condT rfl (Int.ofNat_lt.2 (lt_of_get ha)) ?_
        refine wr_skip ?_
        refine wr_seq ?_
        refine wr_block ?_
        refine wr_seq ?_
        refine wr_region ?_
        refine wo_val (.cp [(.int .i64 a)] 0) rfl (pv_ixa (ixa_nat ti36 ti3 rfl ha)) ?_
        refine wo_val (.int .i64 a) rfl (pv_load (ld_cp ti3 rfl)) ?_
        refine wo_val (.int .i64 a) rfl pv_assign ?_
        refine wo_nil ?_
        refine wr_seq ?_
        refine wr_seq ?_
        refine wr_region ?_
        refine wo_val (.int .i64 a) rfl pv_move ?_
        refine wo_val (.int .i64 last) rfl pv_move ?_
        refine wo_val (.bool (decide (a ≤ last))) rfl (pv_bin rfl rfl rfl) ?_
        refine wo_val (.bool (decide (a ≤ last))) rfl pv_move ?_
        refine wo_meet 4 [(0, (.int .i64 volumes)), (7, (.int .i64 a)), (26, (.sl 1 (List.map (rI .i64) s.Volumes))), (27, (.int .i64 (s.Volumes.length : Int))), (28, (.int .i64 (j : Int))), (39, (.bool ((decide (a ≤ last)) || (decide (a ≥ volumes)))))] ?_ fun hJ1 => wo_cases (decide (a ≤ last)) (fun hb3 => ?_) (fun hb3 => ?_)
        · refine wo_nil ?_
          refine wf_iteb rfl (fun hc1 => ?_) (fun hc1 => ?_)
          · refine wr_seq ?_
            refine wr_region ?_
            refine wo_val (.int .i64 220) rfl pv_assign ?_
            refine wo_nil ?_
            refine wx_each ?_
            refine w_altr ?_
            exact wr_ret (a := 220) (vs := [(.int .i64 220)]) Try.func29 hI rfl (.same _)
          · refine wr_skip ?_
            refine wr_region ?_
            refine wo_val (.int .i64 a) rfl pv_move ?_
            refine wo_val (.int .i64 a) rfl pv_assign ?_
            refine wo_nil ?_
            refine wr_inBlock ?_
            refine wr_region ?_
            refine wo_val (.int .i64 (IntKind.wrap .i64 ((j : Int) + 1))) rfl (pv_bin rfl rfl rfl) ?_
            refine wo_val (.int .i64 (IntKind.wrap .i64 ((j : Int) + 1))) rfl pv_move ?_
            refine wo_nil ?_
            refine wr_is [(0, (.int .i64 volumes)), (5, (.int .i64 a)), (26, (.sl 1 (List.map (rI .i64) s.Volumes))), (27, (.int .i64 (s.Volumes.length : Int))), (28, (.int .i64 ((j + 1 : Nat) : Int)))] (.cons rfl (.cons rfl (.cons rfl (.cons rfl (.cons (inc_ok (lt_of_get ha) hlim) .nil))))) ?_
            refine wb_each ?_
            refine hW a _ _ ?_
            exact ⟨rfl, rfl⟩
        · refine wo_not (tj := 35) (b := true) rfl (congrArg AV.bool hb3) rfl rfl ?_
          refine wo_not (tj := 35) (b := true) rfl (congrArg AV.bool hb3) rfl rfl ?_
          refine wo_not (tj := 35) (b := true) rfl (congrArg AV.bool hb3) rfl rfl ?_
          refine wo_val (.bool true) rfl (pv_pick (t := true) (congrArg AV.bool hb3) rfl) ?_
          exact wo_is [(0, (.int .i64 volumes)), (7, (.int .i64 a)), (26, (.sl 1 (List.map (rI .i64) s.Volumes))), (27, (.int .i64 (s.Volumes.length : Int))), (28, (.int .i64 (j : Int))), (39, (.bool ((decide (a ≤ last)) || (decide (a ≥ volumes)))))] (.cons rfl (.cons rfl (.cons rfl (.cons rfl (.cons rfl (.cons (or_t hb3) .nil)))))) hJ1
        · refine wo_valg (tj := 35) (.int .i64 a) rfl (congrArg AV.bool hb3) rfl pv_move ?_
          refine wo_valg (tj := 35) (.int .i64 volumes) rfl (congrArg AV.bool hb3) rfl pv_move ?_
          refine wo_valg (tj := 35) (.bool (decide (a ≥ volumes))) rfl (congrArg AV.bool hb3) rfl (pv_bin rfl rfl rfl) ?_
          refine wo_val (.bool (decide (a ≥ volumes))) rfl (pv_pick (t := false) (congrArg AV.bool hb3) rfl) ?_
          exact wo_is [(0, (.int .i64 volumes)), (7, (.int .i64 a)), (26, (.sl 1 (List.map (rI .i64) s.Volumes))), (27, (.int .i64 (s.Volumes.length : Int))), (28, (.int .i64 (j : Int))), (39, (.bool ((decide (a ≤ last)) || (decide (a ≥ volumes)))))] (.cons rfl (.cons rfl (.cons rfl (.cons rfl (.cons rfl (.cons (or_f hb3) .nil)))))) hJ1
      · rintro last fr h ⟨rfl, rfl⟩
        refine wr_mod (alt_inl _ _ _) ?_
        refine wr_seq ?_
        refine wr_region ?_
        refine wo_val (.bool (decide ((s.Volumes.length : Int) < (s.Volumes.length : Int)))) rfl (pv_bin rfl rfl rfl) ?_
        refine wo_nil ?_
        refine wr_seq ?_
        refine wr_condF rfl (Int.lt_irrefl _) ?_
        refine wr_exit rfl ?_
        refine wr_seq ?_
        refine wr_region ?_
        refine wo_val (.int .i64 0) rfl pv_assign ?_
        refine wo_nil ?_
        exact wr_ret (a := 0) (vs := [(.int .i64 0)]) Try.func29 hI rfl (.same _)
  · refine wo_not (tj := 19) (b := true) rfl (congrArg AV.bool hb1) rfl rfl ?_
    refine wo_not (tj := 19) (b := true) rfl (congrArg AV.bool hb1) rfl rfl ?_
    refine wo_not (tj := 19) (b := true) rfl (congrArg AV.bool hb1) rfl rfl ?_
    refine wo_not (tj := 19) (b := true) rfl (congrArg AV.bool hb1) rfl rfl ?_
    refine wo_val (.bool true) rfl (pv_pick (t := true) (congrArg AV.bool hb1) rfl) ?_
    exact wo_is [(0, (.int .i64 volumes)), (3, (.ptr (ix ids 0) g 0 0)), (24, (.bool ((!r) || ((s.Volumes.length : Int) == 0))))] (.cons rfl (.cons rfl (.cons (or_t hb1) .nil))) hJ
  · refine wo_valg (tj := 19) (.ptr (ix ids 0) g 0 0) rfl (congrArg AV.bool hb1) rfl (pv_fa (fa_ptr (c := 0) (off := 0) (i := 0) ti38 rfl ti36 rfl)) ?_
    refine wo_valg (tj := 19) (.sl 1 (List.map (rI .i64) s.Volumes)) rfl (congrArg AV.bool hb1) rfl (pv_load (ld_ptr hI rfl rfl rfl ti36 rfl)) ?_
    refine wo_valg (tj := 19) (.int .i64 (s.Volumes.length : Int)) rfl (congrArg AV.bool hb1) rfl (pv_len (len_sl ti36)) ?_
    refine wo_valg (tj := 19) (.bool ((s.Volumes.length : Int) == 0)) rfl (congrArg AV.bool hb1) rfl (pv_bin rfl rfl rfl) ?_
    refine wo_val (.bool ((s.Volumes.length : Int) == 0)) rfl (pv_pick (t := false) (congrArg AV.bool hb1) rfl) ?_
    exact wo_is [(0, (.int .i64 volumes)), (3, (.ptr (ix ids 0) g 0 0)), (24, (.bool ((!r) || ((s.Volumes.length : Int) == 0))))] (.cons rfl (.cons rfl (.cons (or_f hb1) .nil))) hJ

theorem cp_radar_Works (l : (List Status)) (station : Int) (minute : Int) : CP Try.prog 16 [(.sl 3 (List.map rStatus l)), (.int .i64 station), (.int .i64 minute)] (radar_Works l station minute) (fun (x : Bool) => (AV.bool x)) := by
  refine cp_intro (n := 43) 1 Try.func16 rfl (by decide) rfl rfl fun h0 ids hI => ?_
  refine wr_in (wr_mod (radar_Works.eq_1 _ _ _) ?_)
  refine wr_seq ?_
  refine wr_region ?_
  refine wo_val (.bool false) rfl pv_assign ?_
  refine wo_nil ?_
  refine wr_seq ?_
  refine wr_region ?_
  refine wo_val (.bool true) rfl pv_assign ?_
  refine wo_nil ?_
  refine wr_seq ?_
  refine wr_region ?_
  refine wo_val (.int .i64 0) rfl pv_assign ?_
  refine wo_nil ?_
  refine wr_seq ?_
  refine wr_region ?_
  refine wo_val (.bool false) rfl pv_assign ?_
  refine wo_nil ?_
  refine wr_seq ?_
  refine wr_seq ?_
  refine wr_region ?_
  refine wo_val (.sl 3 (List.map rStatus l)) rfl pv_move ?_
  refine wo_val (.int .i64 (l.length : Int)) rfl (pv_len (len_sl ti22)) ?_
  refine wo_val (.int .i64 0) rfl pv_move ?_
  refine wo_nil ?_
  refine wr_block ?_
  refine wr_is [(1, (.int .i64 station)), (2, (.int .i64 minute)), (6, (.bool true)), (7, (.int .i64 0)), (8, (.bool false)), (11, (.sl 3 (List.map rStatus l))), (12, (.int .i64 (l.length : Int))), (13, (.int .i64 0))] (.cons rfl (.cons rfl (.cons rfl (.cons rfl (.cons rfl (.cons rfl (.cons rfl (.cons rfl .nil)))))))) ?_
  refine wf_eachS' (P := Try.prog) l (fun _ a => un3 fun ok vfrom met => radar_Works_b1 station minute a ok vfrom met) (((un3 fun ok vfrom met => .ok ok)) : (Bool × Int × Bool) → R Bool)
    (fun j => un3 fun ok vfrom met => fun (fr : Nat → AV) (h : AHeap) => fr = frA [(1, (.int .i64 station)), (2, (.int .i64 minute)), (6, (.bool ok)), (7, (.int .i64 vfrom)), (8, (.bool met)), (11, (.sl 3 (List.map rStatus l))), (12, (.int .i64 (l.length : Int))), (13, (.int .i64 (j : Int)))] ∧ h = hp h0 ids [none]) (true, 0, false) ?_ ?_ ?_
  · exact ⟨rfl, rfl⟩
  · rintro j a ha W hW ⟨ok, vfrom, met⟩ fr h ⟨rfl, rfl⟩
    refine wr_mod (m' := radar_Works_b1 station minute a ok vfrom met) rfl (wr_mod (radar_Works_b1.eq_1 _ _ _ _ _ _) ?_)
    refine wr_seq ?_
    refine wr_region ?_
    refine wo_val (.bool (decide ((j : Int) < (l.length : Int)))) rfl (pv_bin rfl rfl rfl) ?_
    refine wo_nil ?_
    refine wr_seq ?_
    refine wr_lim (t := 11) (L := l) rfl fun hlim => ?_
    refine wr_condT rfl (Int.ofNat_lt.2 (lt_of_get ha)) ?_
    refine wr_skip ?_
    refine wr_seq ?_
    refine wr_block ?_
    refine wr_seq ?_
    refine wr_region ?_
    refine wo_val (.cp (rStatus a) 0) rfl (pv_ixa (ixa_nat ti22 ti24 rfl ha)) ?_
    refine wo_val (.agg (rStatus a)) rfl (pv_load (ld_cp ti24 rfl)) ?_
    refine wo_alloc (j := 0) hI rfl rfl rfl rfl ti24 rfl fun g => ?_
    refine wo_store (st_ptr hI rfl rfl rfl rfl ti24 rfl rfl rfl rfl rfl) ?_
    refine wo_nil ?_
    refine wr_hp [(some (.rows g 3 [(rStatus a)]))] rfl ?_
    refine wr_seq ?_
    refine wr_region ?_
    refine wo_val (.ptr (ix ids 0) g 0 0) rfl (pv_fa (fa_ptr (c := 0) (off := 0) (i := 0) ti24 rfl ti3 rfl)) ?_
    refine wo_val (.int .i64 a.Station) rfl (pv_load (ld_ptr hI rfl rfl rfl ti3 rfl)) ?_
    refine wo_val (.int .i64 station) rfl pv_move ?_
    refine wo_val (.bool (a.Station == station)) rfl (pv_bin rfl rfl rfl) ?_
    refine wo_val (.bool (a.Station == station)) rfl pv_move ?_
    refine wo_meet 5 [(1, (.int .i64 station)), (2, (.int .i64 minute)), (6, (.bool ok)), (7, (.int .i64 vfrom)), (8, (.bool met)), (10, (.ptr (ix ids 0) g 0 0)), (11, (.sl 3 (List.map rStatus l))), (12, (.int .i64 (l.length : Int))), (13, (.int .i64 (j : Int))), (26, (.bool ((a.Station == station) && (decide (a.From ≤ minute)))))] ?_ fun hJ => wo_cases (a.Station == station) (fun hb1 => ?_) (fun hb1 => ?_)
    · refine wo_val (.bool ((a.Station == station) && (decide (a.From ≤ minute)))) rfl pv_move ?_
      refine wo_meet 9 [(1, (.int .i64 station)), (2, (.int .i64 minute)), (6, (.bool ok)), (7, (.int .i64 vfrom)), (8, (.bool met)), (10, (.ptr (ix ids 0) g 0 0)), (11, (.sl 3 (List.map rStatus l))), (12, (.int .i64 (l.length : Int))), (13, (.int .i64 (j : Int))), (36, (.bool (((a.Station == station) && (decide (a.From ≤ minute))) && ((!met) || (decide (a.From ≥ vfrom))))))] ?_ fun hJ1 => wo_cases ((a.Station == station) && (decide (a.From ≤ minute))) (fun hb3 => ?_) (fun hb3 => ?_)
      · refine wo_nil ?_
        refine wf_iteb rfl (fun hc => ?_) (fun hc => ?_)
        · refine wr_draw hmix [[], [0], [], [2], [0, 1, 1], [0, 1, 2, 3, 3, 4, 4], [0, 1, 2, 3, 4, 5, 5]] [(false, 0), (false, 1), (false, 2), (false, 3), (false, 4), (false, 5), (false, 6)] (by kernel_rfl) ?_
          refine wp_val (.ptr (ix ids 0) g 0 2) rfl rfl (pv_fa (fa_ptr (c := 0) (off := 2) (i := 2) ti24 rfl ti4 rfl)) ?_
          refine wp_val (.bool a.Works) rfl rfl (pv_load (ld_ptr hI rfl rfl rfl ti4 rfl)) ?_
          refine wp_val (.ptr (ix ids 0) g 0 1) rfl rfl (pv_fa (fa_ptr (c := 0) (off := 1) (i := 1) ti24 rfl ti3 rfl)) ?_
          refine wp_val (.int .i64 a.From) rfl rfl (pv_load (ld_ptr hI rfl rfl rfl ti3 rfl)) ?_
          refine wp_val (.bool a.Works) rfl rfl pv_assign ?_
          refine wp_val (.int .i64 a.From) rfl rfl pv_assign ?_
          refine wp_val (.bool true) rfl rfl pv_assign ?_
          refine wp_nil ?_
          refine wr_inBlock ?_
          refine wr_region ?_
          refine wo_val (.int .i64 (IntKind.wrap .i64 ((j : Int) + 1))) rfl (pv_bin rfl rfl rfl) ?_
          refine wo_val (.int .i64 (IntKind.wrap .i64 ((j : Int) + 1))) rfl pv_move ?_
          refine wo_nil ?_
          refine wr_drop [none] hI rfl (.drop .nil) ?_
          refine wr_is [(1, (.int .i64 station)), (2, (.int .i64 minute)), (6, (.bool a.Works)), (7, (.int .i64 a.From)), (8, (.bool true)), (11, (.sl 3 (List.map rStatus l))), (12, (.int .i64 (l.length : Int))), (13, (.int .i64 ((j + 1 : Nat) : Int)))] (.cons rfl (.cons rfl (.cons rfl (.cons rfl (.cons rfl (.cons rfl (.cons rfl (.cons (inc_ok (lt_of_get ha) hlim) .nil)))))))) ?_
          refine wb_S ?_
          refine hW (a.Works, a.From, true) _ _ ?_
          exact ⟨rfl, rfl⟩
        · refine wr_skip ?_
          refine wr_inBlock ?_
          refine wr_region ?_
          refine wo_val (.int .i64 (IntKind.wrap .i64 ((j : Int) + 1))) rfl (pv_bin rfl rfl rfl) ?_
          refine wo_val (.int .i64 (IntKind.wrap .i64 ((j : Int) + 1))) rfl pv_move ?_
          refine wo_nil ?_
          refine wr_drop [none] hI rfl (.drop .nil) ?_
          refine wr_is [(1, (.int .i64 station)), (2, (.int .i64 minute)), (6, (.bool ok)), (7, (.int .i64 vfrom)), (8, (.bool met)), (11, (.sl 3 (List.map rStatus l))), (12, (.int .i64 (l.length : Int))), (13, (.int .i64 ((j + 1 : Nat) : Int)))] (.cons rfl (.cons rfl (.cons rfl (.cons rfl (.cons rfl (.cons rfl (.cons rfl (.cons (inc_ok (lt_of_get ha) hlim) .nil)))))))) ?_
          refine wb_S ?_
          refine hW (ok, vfrom, met) _ _ ?_
          exact ⟨rfl, rfl⟩
      · refine wo_valg (tj := 27) (.bool met) rfl (congrArg AV.bool hb3) rfl pv_move ?_
        refine wo_valg (tj := 27) (.bool (!met)) rfl (congrArg AV.bool hb3) rfl (pv_un rfl) ?_
        refine wo_valg (tj := 27) (.bool (!met)) rfl (congrArg AV.bool hb3) rfl pv_move ?_
        refine wo_meet 5 [(1, (.int .i64 station)), (2, (.int .i64 minute)), (6, (.bool ok)), (7, (.int .i64 vfrom)), (8, (.bool met)), (10, (.ptr (ix ids 0) g 0 0)), (11, (.sl 3 (List.map rStatus l))), (12, (.int .i64 (l.length : Int))), (13, (.int .i64 (j : Int))), (27, (.bool ((a.Station == station) && (decide (a.From ≤ minute))))), (28, (.bool met)), (29, (.bool (!met))), (30, (.bool (!met))), (35, (.bool ((!met) || (decide (a.From ≥ vfrom)))))] ?_ fun hJ2 => wo_cases (!met) (fun hb5 => ?_) (fun hb5 => ?_)
        · refine wo_val (.bool ((!met) || (decide (a.From ≥ vfrom)))) rfl (pv_pick (t := true) (congrArg AV.bool hb3) rfl) ?_
          exact wo_is [(1, (.int .i64 station)), (2, (.int .i64 minute)), (6, (.bool ok)), (7, (.int .i64 vfrom)), (8, (.bool met)), (10, (.ptr (ix ids 0) g 0 0)), (11, (.sl 3 (List.map rStatus l))), (12, (.int .i64 (l.length : Int))), (13, (.int .i64 (j : Int))), (36, (.bool (((a.Station == station) && (decide (a.From ≤ minute))) && ((!met) || (decide (a.From ≥ vfrom))))))] (.cons rfl (.cons rfl (.cons rfl (.cons rfl (.cons rfl (.cons rfl (.cons rfl (.cons rfl (.cons rfl (.cons (and_t hb3) .nil)))))))))) hJ1
        · refine wo_not (tj := 30) (b := true) rfl (congrArg AV.bool hb5) rfl rfl ?_
          refine wo_not (tj := 30) (b := true) rfl (congrArg AV.bool hb5) rfl rfl ?_
          refine wo_not (tj := 30) (b := true) rfl (congrArg AV.bool hb5) rfl rfl ?_
          refine wo_not (tj := 30) (b := true) rfl (congrArg AV.bool hb5) rfl rfl ?_
          refine wo_valg (tj := 27) (.bool true) rfl (congrArg AV.bool hb3) rfl (pv_pick (t := true) (congrArg AV.bool hb5) rfl) ?_
          exact wo_is [(1, (.int .i64 station)), (2, (.int .i64 minute)), (6, (.bool ok)), (7, (.int .i64 vfrom)), (8, (.bool met)), (10, (.ptr (ix ids 0) g 0 0)), (11, (.sl 3 (List.map rStatus l))), (12, (.int .i64 (l.length : Int))), (13, (.int .i64 (j : Int))), (27, (.bool ((a.Station == station) && (decide (a.From ≤ minute))))), (28, (.bool met)), (29, (.bool (!met))), (30, (.bool (!met))), (35, (.bool ((!met) || (decide (a.From ≥ vfrom)))))] (.cons rfl (.cons rfl (.cons rfl (.cons rfl (.cons rfl (.cons rfl (.cons rfl (.cons rfl (.cons rfl (.cons rfl (.cons rfl (.cons rfl (.cons rfl (.cons (or_t hb5) .nil)))))))))))))) hJ2
        · refine wo_valg (tj := 30) (.ptr (ix ids 0) g 0 1) rfl (congrArg AV.bool hb5) rfl (pv_fa (fa_ptr (c := 0) (off := 1) (i := 1) ti24 rfl ti3 rfl)) ?_
          refine wo_valg (tj := 30) (.int .i64 a.From) rfl (congrArg AV.bool hb5) rfl (pv_load (ld_ptr hI rfl rfl rfl ti3 rfl)) ?_
          refine wo_valg (tj := 30) (.int .i64 vfrom) rfl (congrArg AV.bool hb5) rfl pv_move ?_
          refine wo_valg (tj := 30) (.bool (decide (a.From ≥ vfrom))) rfl (congrArg AV.bool hb5) rfl (pv_bin rfl rfl rfl) ?_
          refine wo_valg (tj := 27) (.bool (decide (a.From ≥ vfrom))) rfl (congrArg AV.bool hb3) rfl (pv_pick (t := false) (congrArg AV.bool hb5) rfl) ?_
          exact wo_is [(1, (.int .i64 station)), (2, (.int .i64 minute)), (6, (.bool ok)), (7, (.int .i64 vfrom)), (8, (.bool met)), (10, (.ptr (ix ids 0) g 0 0)), (11, (.sl 3 (List.map rStatus l))), (12, (.int .i64 (l.length : Int))), (13, (.int .i64 (j : Int))), (27, (.bool ((a.Station == station) && (decide (a.From ≤ minute))))), (28, (.bool met)), (29, (.bool (!met))), (30, (.bool (!met))), (35, (.bool ((!met) || (decide (a.From ≥ vfrom)))))] (.cons rfl (.cons rfl (.cons rfl (.cons rfl (.cons rfl (.cons rfl (.cons rfl (.cons rfl (.cons rfl (.cons rfl (.cons rfl (.cons rfl (.cons rfl (.cons (or_f hb5) .nil)))))))))))))) hJ2
      · refine wo_not (tj := 27) (b := false) rfl (congrArg AV.bool hb3) rfl rfl ?_
        refine wo_not (tj := 27) (b := false) rfl (congrArg AV.bool hb3) rfl rfl ?_
        refine wo_not (tj := 27) (b := false) rfl (congrArg AV.bool hb3) rfl rfl ?_
        refine wo_notu (tj := 30) rfl rfl rfl ?_
        refine wo_notu (tj := 30) rfl rfl rfl ?_
        refine wo_notu (tj := 30) rfl rfl rfl ?_
        refine wo_notu (tj := 30) rfl rfl rfl ?_
        refine wo_not (tj := 27) (b := false) rfl (congrArg AV.bool hb3) rfl rfl ?_
        refine wo_val (.bool false) rfl (pv_pick (t := false) (congrArg AV.bool hb3) rfl) ?_
        exact wo_is [(1, (.int .i64 station)), (2, (.int .i64 minute)), (6, (.bool ok)), (7, (.int .i64 vfrom)), (8, (.bool met)), (10, (.ptr (ix ids 0) g 0 0)), (11, (.sl 3 (List.map rStatus l))), (12, (.int .i64 (l.length : Int))), (13, (.int .i64 (j : Int))), (36, (.bool (((a.Station == station) && (decide (a.From ≤ minute))) && ((!met) || (decide (a.From ≥ vfrom))))))] (.cons rfl (.cons rfl (.cons rfl (.cons rfl (.cons rfl (.cons rfl (.cons rfl (.cons rfl (.cons rfl (.cons (and_f hb3) .nil)))))))))) hJ1
    · refine wo_valg (tj := 21) (.ptr (ix ids 0) g 0 1) rfl (congrArg AV.bool hb1) rfl (pv_fa (fa_ptr (c := 0) (off := 1) (i := 1) ti24 rfl ti3 rfl)) ?_
      refine wo_valg (tj := 21) (.int .i64 a.From) rfl (congrArg AV.bool hb1) rfl (pv_load (ld_ptr hI rfl rfl rfl ti3 rfl)) ?_
      refine wo_valg (tj := 21) (.int .i64 minute) rfl (congrArg AV.bool hb1) rfl pv_move ?_
      refine wo_valg (tj := 21) (.bool (decide (a.From ≤ minute))) rfl (congrArg AV.bool hb1) rfl (pv_bin rfl rfl rfl) ?_
      refine wo_val (.bool (decide (a.From ≤ minute))) rfl (pv_pick (t := true) (congrArg AV.bool hb1) rfl) ?_
      exact wo_is [(1, (.int .i64 station)), (2, (.int .i64 minute)), (6, (.bool ok)), (7, (.int .i64 vfrom)), (8, (.bool met)), (10, (.ptr (ix ids 0) g 0 0)), (11, (.sl 3 (List.map rStatus l))), (12, (.int .i64 (l.length : Int))), (13, (.int .i64 (j : Int))), (26, (.bool ((a.Station == station) && (decide (a.From ≤ minute)))))] (.cons rfl (.cons rfl (.cons rfl (.cons rfl (.cons rfl (.cons rfl (.cons rfl (.cons rfl (.cons rfl (.cons (and_t hb1) .nil)))))))))) hJ
    · refine wo_not (tj := 21) (b := false) rfl (congrArg AV.bool hb1) rfl rfl ?_
      refine wo_not (tj := 21) (b := false) rfl (congrArg AV.bool hb1) rfl rfl ?_
      refine wo_not (tj := 21) (b := false) rfl (congrArg AV.bool hb1) rfl rfl ?_
      refine wo_not (tj := 21) (b := false) rfl (congrArg AV.bool hb1) rfl rfl ?_
      refine wo_val (.bool false) rfl (pv_pick (t := false) (congrArg AV.bool hb1) rfl) ?_
      exact wo_is [(1, (.int .i64 station)), (2, (.int .i64 minute)), (6, (.bool ok)), (7, (.int .i64 vfrom)), (8, (.bool met)), (10, (.ptr (ix ids 0) g 0 0)), (11, (.sl 3 (List.map rStatus l))), (12, (.int .i64 (l.length : Int))), (13, (.int .i64 (j : Int))), (26, (.bool ((a.Station == station) && (decide (a.From ≤ minute)))))] (.cons rfl (.cons rfl (.cons rfl (.cons rfl (.cons rfl (.cons rfl (.cons rfl (.cons rfl (.cons rfl (.cons (and_f hb1) .nil)))))))))) hJ
  · rintro ⟨ok, vfrom, met⟩ fr h ⟨rfl, rfl⟩
    refine wr_mod (un3_mk _ _ _ _) ?_
    refine wr_seq ?_
    refine wr_region ?_
    refine wo_val (.bool (decide ((l.length : Int) < (l.length : Int)))) rfl (pv_bin rfl rfl rfl) ?_
    refine wo_nil ?_
    refine wr_seq ?_
    refine wr_condF rfl (Int.lt_irrefl _) ?_
    refine wr_exit rfl ?_
    refine wr_seq ?_
    refine wr_region ?_
    refine wo_val (.bool ok) rfl pv_move ?_
    refine wo_val (.bool ok) rfl pv_assign ?_
    refine wo_nil ?_
    exact wr_ret (a := ok) (vs := [(.bool ok)]) Try.func16 hI rfl (.same _)

theorem cg_radar_Seen_c1 (v1 : Int) (l : (List Bool)) (h0 : AHeap) (o0 : Nat) (o1 : Nat) (g : Nat) (v2 : AV) (g1 : Nat) (vH : OwnV v2 o1 g1 l.length) (hI0 : Ids h0 [o0, o1] 2) : radar_Seen_c1 v1 l ≠ .bad → ACalls Try.prog 30 [(.int .i64 v1), (.ptr o0 g 0 0)] (hp h0 [o0, o1] [some (.rows g 1 [[v2]]), ownO v2 g1 1 (List.map rB l)]) (AnsG (fun a_ v h' => v = (.tup []) ∧ h' = hp h0 [o0, o1] [some (.rows g 1 [[v2]]), ownO v2 g1 1 (List.map rB (l.set v1.toNat true))]) h0 (radar_Seen_c1 v1 l)) := by
  refine cpg_intro (n := 6) 0 Try.func30 rfl (by decide) rfl rfl hI0 rfl fun ids he hI => ?_
  clear hI0
  obtain rfl : ix ids 0 = o0 := he 0 rfl
  obtain rfl : ix ids 1 = o1 := he 1 rfl
  clear he
  refine wr_in (wr_mod (radar_Seen_c1.eq_1 _ _) ?_)
  refine wr_region ?_
  refine wo_val v2 rfl (pv_load (ld_ptr hI rfl rfl rfl ti39 rfl)) ?_
  refine wo_val (.int .i64 v1) rfl pv_move ?_
  refine of_idx fun a hz hx1 => ?_
  refine wo_val (.ptr (ix ids 1) g1 v1.toNat 0) rfl (pv_ixa (ixa_own hI rfl vH rfl ti39 ti4 rfl hz hx1)) ?_
  refine wo_store (st_own (y := true) hI rfl rfl vH rfl hx1 ti4 rfl rfl rfl rfl rfl rfl) ?_
  have hx2 := List.getElem?_set_self (a := true) (lt_of_get hx1)
  refine wo_nil ?_
  refine wr_hp [(some (.rows g 1 [[v2]])), (ownO v2 g1 1 (List.map rB (l.set v1.toNat true)))] rfl ?_
  exact wr_endG (K := 2) (N := 0) (a := ()) (vs := []) [some (.rows g 1 [[v2]]), ownO v2 g1 1 (List.map rB (l.set v1.toNat true))] Try.func30 hI rfl rfl rfl (.keep (.keep .nil)) (.same _) ⟨rfl, rfl⟩

theorem cp_radar_Seen (volumes : Int) (s : (List Station)) (l : (List Status)) (minute : Int) : CP Try.prog 17 [(.int .i64 volumes), (.sl 3 (List.map rStation s)), (.sl 3 (List.map rStatus l)), (.int .i64 minute)] (radar_Seen volumes s l minute) (fun (p : ((List Bool) × Int)) => AV.tup [(.sl 1 (List.map rB p.1)), (.int .i64 p.2)]) := by
  refine cp_intro (n := 79) 4 Try.func17 rfl (by decide) rfl rfl fun h0 ids hI => ?_
  refine wr_in (wr_mod (radar_Seen.eq_1 _ _ _ _) ?_)
  refine wr_seq ?_
  refine wr_region ?_
  refine wo_alloc (j := 0) hI rfl rfl rfl rfl ti39 rfl fun g => ?_
  refine wo_val (.int .i64 0) rfl pv_assign ?_
  refine wo_nil ?_
  refine wr_hp [(some (.rows g 1 [[.emp]])), none, none, none] rfl ?_
  refine wr_seq ?_
  refine wr_seq ?_
  refine wr_region ?_
  refine wo_val (.int .i64 volumes) rfl pv_move ?_
  refine of_call [(.int .i64 volumes), (.int .i64 1), (.int .i64 64)] rfl rfl rfl rfl ((cp_radar_in volumes 1 64) _) (fun v _ => wu_pan Try.func17 hI) fun r _ => ?_
  refine wo_val (.bool (!r)) rfl (pv_un rfl) ?_
  refine wo_val (.bool (!r)) rfl pv_move ?_
  refine wo_meet 4 [(0, (.int .i64 volumes)), (1, (.sl 3 (List.map rStation s))), (2, (.sl 3 (List.map rStatus l))), (3, (.int .i64 minute)), (8, (.ptr (ix ids 0) g 0 0)), (26, (.bool ((!r) || (decide ((s.length : Int) > 4)))))] ?_ fun hJ => wo_cases (!r) (fun hb1 => ?_) (fun hb1 => ?_)
  · refine wo_val (.bool ((!r) || (decide ((s.length : Int) > 4)))) rfl pv_move ?_
    refine wo_join 4 ((fun (b : Bool) => if b then
(.ok ([], 260))
else
((each (fun _ a => fun _ => radar_Seen_b1 volumes a) 0 s ()).bind (alt (fun _ => (radar_Check (s.length : Int) l).bind fun e1 =>
  if (e1 != 0) then
(.ok ([], e1))
else
(if (0 : Int) ≤ volumes ∧ (volumes : Int) ≤ volumes ∧ (Int.toNat volumes) * 1 ≤ LIM then
  (eachS (fun j1 a1 => fun l1 => radar_Seen_b3 l minute j1 a1 l1) 0 s (List.replicate (Int.toNat volumes) false)).bind ((fun l1 => .ok (l1, 0))) else .bad)) (fun r => .ok r)))) : Bool → R ((List Bool) × Int)) (fun (b : Bool) (fr : Nat → AV) (h : AHeap) => fr = frA [(0, (.int .i64 volumes)), (1, (.sl 3 (List.map rStation s))), (2, (.sl 3 (List.map rStatus l))), (3, (.int .i64 minute)), (8, (.ptr (ix ids 0) g 0 0)), (31, (.bool b))] ∧ h = hp h0 ids [(some (.rows g 1 [[.emp]])), none, none, none]) ?_ fun hJ1 => of_if1 (fun hb3 => ?_) (fun hb3 => ?_)
    · rintro b fr h ⟨rfl, rfl⟩
      refine wo_nil ?_
      refine wf_iteb rfl (fun hc => ?_) (fun hc => ?_)
      · refine wr_seq ?_
        refine wr_region ?_
        refine wo_store (st_ptr hI rfl rfl rfl rfl ti39 rfl rfl rfl rfl rfl) ?_
        refine wo_val (.int .i64 260) rfl pv_assign ?_
        refine wo_nil ?_
        exact wr_ret (a := ([], 260)) (vs := [.emp, (.int .i64 260)]) Try.func17 hI (ares_cell (ld_ptr hI rfl rfl rfl ti39 rfl) (ares_tmp ares_nil)) (.tupL (.cons (.emp _) (.cons (.same _) .nil)))
      · refine wr_skip ?_
        refine wr_seq ?_
        refine wr_seq ?_
        refine wr_region ?_
        refine wo_val (.sl 3 (List.map rStation s)) rfl pv_move ?_
        refine wo_val (.int .i64 (s.length : Int)) rfl (pv_len (len_sl ti35)) ?_
        refine wo_val (.int .i64 0) rfl pv_move ?_
        refine wo_nil ?_
        refine wr_block ?_
        refine wr_is [(0, (.int .i64 volumes)), (1, (.sl 3 (List.map rStation s))), (2, (.sl 3 (List.map rStatus l))), (3, (.int .i64 minute)), (8, (.ptr (ix ids 0) g 0 0)), (32, (.sl 3 (List.map rStation s))), (33, (.int .i64 (s.length : Int))), (34, (.int .i64 0))] (.cons rfl (.cons rfl (.cons rfl (.cons rfl (.cons rfl (.cons rfl (.cons rfl (.cons rfl .nil)))))))) ?_
        refine wf_each' (P := Try.prog) s (fun _ a => fun _ => radar_Seen_b1 volumes a) ((alt (fun _ => (radar_Check (s.length : Int) l).bind fun e1 =>
  if (e1 != 0) then
(.ok ([], e1))
else
(if (0 : Int) ≤ volumes ∧ (volumes : Int) ≤ volumes ∧ (Int.toNat volumes) * 1 ≤ LIM then
  (eachS (fun j1 a1 => fun l1 => radar_Seen_b3 l minute j1 a1 l1) 0 s (List.replicate (Int.toNat volumes) false)).bind ((fun l1 => .ok (l1, 0))) else .bad)) (fun r => .ok r)) : (Unit ⊕ ((List Bool) × Int)) → R ((List Bool) × Int))
          (fun j => fun _ => fun (fr : Nat → AV) (h : AHeap) => fr = frA [(0, (.int .i64 volumes)), (1, (.sl 3 (List.map rStation s))), (2, (.sl 3 (List.map rStatus l))), (3, (.int .i64 minute)), (8, (.ptr (ix ids 0) g 0 0)), (32, (.sl 3 (List.map rStation s))), (33, (.int .i64 (s.length : Int))), (34, (.int .i64 (j : Int)))] ∧ h = hp h0 ids [(some (.rows g 1 [[.emp]])), none, none, none]) () ?_ ?_ ?_
        · exact ⟨rfl, rfl⟩
        · rintro j a ha W hW _ fr h ⟨rfl, rfl⟩
          refine wr_mod (m' := radar_Seen_b1 volumes a) rfl (wr_mod (radar_Seen_b1.eq_1 _ _) ?_)
          refine wr_seq ?_
          refine wr_region ?_
          refine wo_val (.bool (decide ((j : Int) < (s.length : Int)))) rfl (pv_bin rfl rfl rfl) ?_
          refine wo_nil ?_
          refine wr_seq ?_
          refine wr_lim (t := 1) (L := s) rfl fun hlim => ?_
          refine wr_condT rfl (Int.ofNat_lt.2 (lt_of_get ha)) ?_
          refine wr_skip ?_
          refine wr_seq ?_
          refine wr_block ?_
          refine wr_seq ?_
          refine wr_region ?_
          refine wo_val (.cp (rStation a) 0) rfl (pv_ixa (ixa_nat ti35 ti38 rfl ha)) ?_
          refine wo_val (.agg (rStation a)) rfl (pv_load (ld_cp ti38 rfl)) ?_
          refine wo_alloc (j := 1) hI rfl rfl rfl rfl ti38 rfl fun g1 => ?_
          refine wo_store (st_ptr hI rfl rfl rfl rfl ti38 rfl rfl rfl rfl rfl) ?_
          refine wo_nil ?_
          refine wr_hp [(some (.rows g 1 [[.emp]])), (some (.rows g1 3 [(rStation a)])), none, none] rfl ?_
          refine wr_seq ?_
          refine wr_region ?_
          refine wo_val (.int .i64 volumes) rfl pv_move ?_
          refine wo_val (.agg (rStation a)) rfl (pv_load (ld_ptr hI rfl rfl rfl ti38 rfl)) ?_
          refine of_call [(.int .i64 volumes), (.agg (rStation a))] rfl rfl rfl rfl ((cp_reports_Station volumes a) _) (fun v _ => wu_pan Try.func17 hI) fun e _ => ?_
          refine wo_val (.int .i64 e) rfl pv_assign ?_
          refine wo_nil ?_
          refine wr_seq ?_
          refine wr_region ?_
          refine wo_val (.int .i64 e) rfl pv_move ?_
          refine wo_val (.bool (e != 0)) rfl (pv_bin rfl rfl rfl) ?_
          refine wo_nil ?_
          refine wf_iteb rfl (fun hc1 => ?_) (fun hc1 => ?_)
          · refine wr_seq ?_
            refine wr_region ?_
            refine wo_val (.int .i64 e) rfl pv_move ?_
            refine wo_store (st_ptr hI rfl rfl rfl rfl ti39 rfl rfl rfl rfl rfl) ?_
            refine wo_val (.int .i64 e) rfl pv_assign ?_
            refine wo_nil ?_
            refine wx_each ?_
            refine w_altr ?_
            exact wr_ret (a := ([], e)) (vs := [.emp, (.int .i64 e)]) Try.func17 hI (ares_cell (ld_ptr hI rfl rfl rfl ti39 rfl) (ares_tmp ares_nil)) (.tupL (.cons (.emp _) (.cons (.same _) .nil)))
          · refine wr_skip ?_
            refine wr_inBlock ?_
            refine wr_region ?_
            refine wo_val (.int .i64 (IntKind.wrap .i64 ((j : Int) + 1))) rfl (pv_bin rfl rfl rfl) ?_
            refine wo_val (.int .i64 (IntKind.wrap .i64 ((j : Int) + 1))) rfl pv_move ?_
            refine wo_nil ?_
            refine wr_drop [(some (.rows g 1 [[.emp]])), none, none, none] hI rfl (.keep (.drop (.keep (.keep .nil)))) ?_
            refine wr_is [(0, (.int .i64 volumes)), (1, (.sl 3 (List.map rStation s))), (2, (.sl 3 (List.map rStatus l))), (3, (.int .i64 minute)), (8, (.ptr (ix ids 0) g 0 0)), (32, (.sl 3 (List.map rStation s))), (33, (.int .i64 (s.length : Int))), (34, (.int .i64 ((j + 1 : Nat) : Int)))] (.cons rfl (.cons rfl (.cons rfl (.cons rfl (.cons rfl (.cons rfl (.cons rfl (.cons (inc_ok (lt_of_get ha) hlim) .nil)))))))) ?_
            refine wb_each ?_
            refine hW () _ _ ?_
            exact ⟨rfl, rfl⟩
        · rintro _ fr h ⟨rfl, rfl⟩
          refine wr_mod (alt_inl _ _ _) ?_
          refine wr_seq ?_
          refine wr_region ?_
          refine wo_val (.bool (decide ((s.length : Int) < (s.length : Int)))) rfl (pv_bin rfl rfl rfl) ?_
          refine wo_nil ?_
          refine wr_seq ?_
          refine wr_condF rfl (Int.lt_irrefl _) ?_
          refine wr_exit rfl ?_
          refine wr_seq ?_
          refine wr_seq ?_
          refine wr_region ?_
          refine wo_val (.sl 3 (List.map rStation s)) rfl pv_move ?_
          refine wo_val (.int .i64 (s.length : Int)) rfl (pv_len (len_sl ti35)) ?_
          refine wo_val (.sl 3 (List.map rStatus l)) rfl pv_move ?_
          refine of_call [(.int .i64 (s.length : Int)), (.sl 3 (List.map rStatus l))] rfl rfl rfl rfl ((cp_radar_Check (s.length : Int) l) _) (fun v _ => wu_pan Try.func17 hI) fun e1 _ => ?_
          refine wo_val (.int .i64 e1) rfl pv_assign ?_
          refine wo_nil ?_
          refine wr_seq ?_
          refine wr_region ?_
          refine wo_val (.int .i64 e1) rfl pv_move ?_
          refine wo_val (.bool (e1 != 0)) rfl (pv_bin rfl rfl rfl) ?_
          refine wo_nil ?_
          refine wf_iteb rfl (fun hc2 => ?_) (fun hc2 => ?_)
          · refine wr_seq ?_
            refine wr_region ?_
            refine wo_val (.int .i64 e1) rfl pv_move ?_
            refine wo_store (st_ptr hI rfl rfl rfl rfl ti39 rfl rfl rfl rfl rfl) ?_
            refine wo_val (.int .i64 e1) rfl pv_assign ?_
            refine wo_nil ?_
            exact wr_ret (a := ([], e1)) (vs := [.emp, (.int .i64 e1)]) Try.func17 hI (ares_cell (ld_ptr hI rfl rfl rfl ti39 rfl) (ares_tmp ares_nil)) (.tupL (.cons (.emp _) (.cons (.same _) .nil)))
          · refine wr_skip ?_
            refine wr_seq ?_
            refine wr_region ?_
            refine wo_val (.int .i64 volumes) rfl pv_move ?_
            refine of_need fun hl => ?_
            refine wo_make (y := (false : Bool)) (e := rB) (st := 1) (j := 2) hI rfl rfl rfl rfl ti39 ti4 rfl rfl hl.1 hl.2.1 hl.2.2 rfl rfl rfl rfl rfl fun v g2 vH => ?_
            refine wo_store (st_ptrO vH hI rfl rfl rfl rfl ti39 rfl rfl rfl) ?_
            refine wo_nil ?_
            refine wr_hp [(some (.rows g 1 [[v]])), none, (ownO v g2 1 (List.map rB (List.replicate (Int.toNat volumes) false))), none] rfl ?_
            refine wr_seq ?_
            refine wr_region ?_
            refine wo_val (.func (.func 30) [] [(.ptr (ix ids 0) g 0 0)]) rfl pv_func ?_
            refine wo_val (.func (.func 30) [] [(.ptr (ix ids 0) g 0 0)]) rfl pv_assign ?_
            refine wo_nil ?_
            refine wr_seq ?_
            refine wr_seq ?_
            refine wr_region ?_
            refine wo_val (.sl 3 (List.map rStation s)) rfl pv_move ?_
            refine wo_val (.int .i64 (s.length : Int)) rfl (pv_len (len_sl ti35)) ?_
            refine wo_val (.int .i64 0) rfl pv_move ?_
            refine wo_nil ?_
            refine wr_block ?_
            refine wr_is [(2, (.sl 3 (List.map rStatus l))), (3, (.int .i64 minute)), (8, (.ptr (ix ids 0) g 0 0)), (14, (.func (.func 30) [] [(.ptr (ix ids 0) g 0 0)])), (55, (.sl 3 (List.map rStation s))), (56, (.int .i64 (s.length : Int))), (57, (.int .i64 0))] (.cons rfl (.cons rfl (.cons rfl (.cons rfl (.cons rfl (.cons rfl (.cons rfl .nil))))))) ?_
            refine wf_eachS' (P := Try.prog) s (fun j1 a1 => fun l1 => radar_Seen_b3 l minute j1 a1 l1) (((fun l1 => .ok (l1, 0))) : (List Bool) → R ((List Bool) × Int))
              (fun j1 => fun l1 => fun (fr : Nat → AV) (h : AHeap) => ∃ (v1 : AV), ∃ (g3 : Nat), OwnV v1 (ix ids 2) g3 l1.length ∧ fr = frA [(2, (.sl 3 (List.map rStatus l))), (3, (.int .i64 minute)), (8, (.ptr (ix ids 0) g 0 0)), (14, (.func (.func 30) [] [(.ptr (ix ids 0) g 0 0)])), (55, (.sl 3 (List.map rStation s))), (56, (.int .i64 (s.length : Int))), (57, (.int .i64 (j1 : Int)))] ∧ h = hp h0 ids [(some (.rows g 1 [[v1]])), none, (ownO v1 g3 1 (List.map rB l1)), none]) (List.replicate (Int.toNat volumes) false) ?_ ?_ ?_
            · exact ⟨v, g2, vH, rfl, rfl⟩
            · rintro j1 a1 ha1 W hW1 l1 fr h ⟨v1, g3, vH1, rfl, rfl⟩
              refine wr_mod (m' := radar_Seen_b3 l minute j1 a1 l1) rfl (wr_mod (radar_Seen_b3.eq_1 _ _ _ _ _) ?_)
              refine wr_seq ?_
              refine wr_region ?_
              refine wo_val (.bool (decide ((j1 : Int) < (s.length : Int)))) rfl (pv_bin rfl rfl rfl) ?_
              refine wo_nil ?_
              refine wr_seq ?_
              refine wr_lim (t := 55) (L := s) rfl fun hlim1 => ?_
              refine wr_condT rfl (Int.ofNat_lt.2 (lt_of_get ha1)) ?_
              refine wr_skip ?_
              refine wr_seq ?_
              refine wr_block ?_
              refine wr_seq ?_
              refine wr_region ?_
              refine wo_val (.int .i64 (j1 : Int)) rfl pv_move ?_
              refine wo_val (.cp (rStation a1) 0) rfl (pv_ixa (ixa_nat ti35 ti38 rfl ha1)) ?_
              refine wo_val (.agg (rStation a1)) rfl (pv_load (ld_cp ti38 rfl)) ?_
              refine wo_alloc (j := 3) hI rfl rfl rfl rfl ti38 rfl fun g4 => ?_
              refine wo_val (.int .i64 (j1 : Int)) rfl pv_assign ?_
              refine wo_store (st_ptr hI rfl rfl rfl rfl ti38 rfl rfl rfl rfl rfl) ?_
              refine wo_nil ?_
              refine wr_hp [(some (.rows g 1 [[v1]])), none, (ownO v1 g3 1 (List.map rB l1)), (some (.rows g4 3 [(rStation a1)]))] rfl ?_
              refine wr_seq ?_
              refine wr_region ?_
              refine wo_val (.sl 3 (List.map rStatus l)) rfl pv_move ?_
              refine wo_val (.int .i64 (j1 : Int)) rfl pv_move ?_
              refine wo_val (.int .i64 minute) rfl pv_move ?_
              refine of_call [(.sl 3 (List.map rStatus l)), (.int .i64 (j1 : Int)), (.int .i64 minute)] rfl rfl rfl rfl ((cp_radar_Works l (j1 : Int) minute) _) (fun v _ => wu_pan Try.func17 hI) fun r2 _ => ?_
              refine wo_nil ?_
              refine wf_iteb rfl (fun hc3 => ?_) (fun hc3 => ?_)
              · refine wr_seq ?_
                refine wr_region ?_
                refine wo_val (.ptr (ix ids 3) g4 0 0) rfl (pv_fa (fa_ptr (c := 0) (off := 0) (i := 0) ti38 rfl ti36 rfl)) ?_
                refine wo_val (.sl 1 (List.map (rI .i64) a1.Volumes)) rfl (pv_load (ld_ptr hI rfl rfl rfl ti36 rfl)) ?_
                refine wo_val (.int .i64 (a1.Volumes.length : Int)) rfl (pv_len (len_sl ti36)) ?_
                refine wo_val (.int .i64 0) rfl pv_move ?_
                refine wo_nil ?_
                refine wr_block ?_
                refine wr_drop [(some (.rows g 1 [[v1]])), none, (ownO v1 g3 1 (List.map rB l1)), none] hI rfl (.keep (.keep (.keep (.drop .nil)))) ?_
                refine wr_is [(2, (.sl 3 (List.map rStatus l))), (3, (.int .i64 minute)), (8, (.ptr (ix ids 0) g 0 0)), (14, (.func (.func 30) [] [(.ptr (ix ids 0) g 0 0)])), (55, (.sl 3 (List.map rStation s))), (56, (.int .i64 (s.length : Int))), (57, (.int .i64 (j1 : Int))), (67, (.sl 1 (List.map (rI .i64) a1.Volumes))), (68, (.int .i64 (a1.Volumes.length : Int))), (69, (.int .i64 0))] (.cons rfl (.cons rfl (.cons rfl (.cons rfl (.cons rfl (.cons rfl (.cons rfl (.cons rfl (.cons rfl (.cons rfl .nil)))))))))) ?_
                refine wf_eachS' (P := Try.prog) a1.Volumes (fun _ a2 => fun l2 => radar_Seen_b2 a2 l2) (((fun l2 => .ok l2)) : (List Bool) → R (List Bool))
                  (fun j2 => fun l2 => fun (fr : Nat → AV) (h : AHeap) => ∃ (v2 : AV), ∃ (g5 : Nat), OwnV v2 (ix ids 2) g5 l2.length ∧ fr = frA [(2, (.sl 3 (List.map rStatus l))), (3, (.int .i64 minute)), (8, (.ptr (ix ids 0) g 0 0)), (14, (.func (.func 30) [] [(.ptr (ix ids 0) g 0 0)])), (55, (.sl 3 (List.map rStation s))), (56, (.int .i64 (s.length : Int))), (57, (.int .i64 (j1 : Int))), (67, (.sl 1 (List.map (rI .i64) a1.Volumes))), (68, (.int .i64 (a1.Volumes.length : Int))), (69, (.int .i64 (j2 : Int)))] ∧ h = hp h0 ids [(some (.rows g 1 [[v2]])), none, (ownO v2 g5 1 (List.map rB l2)), none]) l1 ?_ ?_ ?_
                · exact ⟨v1, g3, vH1, rfl, rfl⟩
                · rintro j2 a2 ha2 W hW2 l2 fr h ⟨v2, g5, vH2, rfl, rfl⟩
                  refine wr_mod (m' := radar_Seen_b2 a2 l2) rfl (wr_mod (radar_Seen_b2.eq_1 _ _) ?_)
                  refine wr_seq ?_
                  refine wr_region ?_
                  refine wo_val (.bool (decide ((j2 : Int) < (a1.Volumes.length : Int)))) rfl (pv_bin rfl rfl rfl) ?_
                  refine wo_nil ?_
                  refine wr_seq ?_
                  refine wr_lim (t := 67) (L := a1.Volumes) rfl fun hlim2 => ?_
                  refine wr_condT rfl (Int.ofNat_lt.2 (lt_of_get ha2)) ?_
                  refine wr_skip ?_
                  refine wr_seq ?_
                  refine wr_block ?_
                  refine wr_seq ?_
                  refine wr_region ?_
                  refine wo_val (.cp [(.int .i64 a2)] 0) rfl (pv_ixa (ixa_nat ti36 ti3 rfl ha2)) ?_
                  refine wo_val (.int .i64 a2) rfl (pv_load (ld_cp ti3 rfl)) ?_
                  refine wo_val (.int .i64 a2) rfl pv_assign ?_
                  refine wo_nil ?_
                  refine wr_region ?_
                  refine wo_val (.func (.func 30) [] [(.ptr (ix ids 0) g 0 0)]) rfl pv_move ?_
                  refine wo_val (.int .i64 a2) rfl pv_move ?_
                  refine of_callG [0, 2] hI rfl rfl (cg_radar_Seen_c1 a2 l2 _ (ix ids 0) (ix ids 2) g v2 g5 vH2 (by exact hI.sub' rfl rfl)) rfl rfl rfl rfl rfl rfl (fun v _ => wu_pan Try.func17 hI) ?_
                  rintro _ _ _ _ ⟨rfl, rfl⟩
                  refine wo_putH [0, 2] [some (.rows g 1 [[v2]]), none, ownO v2 g5 1 (List.map rB (l2.set a2.toNat true)), none] hI rfl rfl rfl rfl ?_
                  refine wo_put1 ?_
                  refine wo_nil ?_
                  refine wr_hp [(some (.rows g 1 [[v2]])), none, (ownO v2 g5 1 (List.map rB (l2.set a2.toNat true))), none] rfl ?_
                  refine wr_inBlock ?_
                  refine wr_region ?_
                  refine wo_val (.int .i64 (IntKind.wrap .i64 ((j2 : Int) + 1))) rfl (pv_bin rfl rfl rfl) ?_
                  refine wo_val (.int .i64 (IntKind.wrap .i64 ((j2 : Int) + 1))) rfl pv_move ?_
                  refine wo_nil ?_
                  refine wr_is [(2, (.sl 3 (List.map rStatus l))), (3, (.int .i64 minute)), (8, (.ptr (ix ids 0) g 0 0)), (14, (.func (.func 30) [] [(.ptr (ix ids 0) g 0 0)])), (55, (.sl 3 (List.map rStation s))), (56, (.int .i64 (s.length : Int))), (57, (.int .i64 (j1 : Int))), (67, (.sl 1 (List.map (rI .i64) a1.Volumes))), (68, (.int .i64 (a1.Volumes.length : Int))), (69, (.int .i64 ((j2 + 1 : Nat) : Int)))] (.cons rfl (.cons rfl (.cons rfl (.cons rfl (.cons rfl (.cons rfl (.cons rfl (.cons rfl (.cons rfl (.cons (inc_ok (lt_of_get ha2) hlim2) .nil)))))))))) ?_
                  refine wb_S ?_
                  refine hW2 (l2.set a2.toNat true) _ _ ?_
                  exact ⟨v2, g5, (OwnV.set (i := a2.toNat) (y := true) vH2), rfl, rfl⟩
                · rintro l2 fr h ⟨v2, g5, vH2, rfl, rfl⟩
                  refine wr_seq ?_
                  refine wr_region ?_
                  refine wo_val (.bool (decide ((a1.Volumes.length : Int) < (a1.Volumes.length : Int)))) rfl (pv_bin rfl rfl rfl) ?_
                  refine wo_nil ?_
                  refine wr_seq ?_
                  refine wr_condF rfl (Int.lt_irrefl _) ?_
                  refine wr_exit rfl ?_
                  refine wr_inBlock ?_
                  refine wr_region ?_
                  refine wo_val (.int .i64 (IntKind.wrap .i64 ((j1 : Int) + 1))) rfl (pv_bin rfl rfl rfl) ?_
                  refine wo_val (.int .i64 (IntKind.wrap .i64 ((j1 : Int) + 1))) rfl pv_move ?_
                  refine wo_nil ?_
                  refine wr_is [(2, (.sl 3 (List.map rStatus l))), (3, (.int .i64 minute)), (8, (.ptr (ix ids 0) g 0 0)), (14, (.func (.func 30) [] [(.ptr (ix ids 0) g 0 0)])), (55, (.sl 3 (List.map rStation s))), (56, (.int .i64 (s.length : Int))), (57, (.int .i64 ((j1 + 1 : Nat) : Int)))] (.cons rfl (.cons rfl (.cons rfl (.cons rfl (.cons rfl (.cons rfl (.cons (inc_ok (lt_of_get ha1) hlim1) .nil))))))) ?_
                  refine wb_S ?_
                  refine hW1 l2 _ _ ?_
                  exact ⟨v2, g5, vH2, rfl, rfl⟩
              · refine wr_skip ?_
                refine wr_inBlock ?_
                refine wr_region ?_
                refine wo_val (.int .i64 (IntKind.wrap .i64 ((j1 : Int) + 1))) rfl (pv_bin rfl rfl rfl) ?_
                refine wo_val (.int .i64 (IntKind.wrap .i64 ((j1 : Int) + 1))) rfl pv_move ?_
                refine wo_nil ?_
                refine wr_drop [(some (.rows g 1 [[v1]])), none, (ownO v1 g3 1 (List.map rB l1)), none] hI rfl (.keep (.keep (.keep (.drop .nil)))) ?_
                refine wr_is [(2, (.sl 3 (List.map rStatus l))), (3, (.int .i64 minute)), (8, (.ptr (ix ids 0) g 0 0)), (14, (.func (.func 30) [] [(.ptr (ix ids 0) g 0 0)])), (55, (.sl 3 (List.map rStation s))), (56, (.int .i64 (s.length : Int))), (57, (.int .i64 ((j1 + 1 : Nat) : Int)))] (.cons rfl (.cons rfl (.cons rfl (.cons rfl (.cons rfl (.cons rfl (.cons (inc_ok (lt_of_get ha1) hlim1) .nil))))))) ?_
                refine wb_S ?_
                refine hW1 l1 _ _ ?_
                exact ⟨v1, g3, vH1, rfl, rfl⟩
            · rintro l1 fr h ⟨v1, g3, vH1, rfl, rfl⟩
              refine wr_seq ?_
              refine wr_region ?_
              refine wo_val (.bool (decide ((s.length : Int) < (s.length : Int)))) rfl (pv_bin rfl rfl rfl) ?_
              refine wo_nil ?_
              refine wr_seq ?_
              refine wr_condF rfl (Int.lt_irrefl _) ?_
              refine wr_exit rfl ?_
              refine wr_seq ?_
              refine wr_region ?_
              refine wo_val v1 rfl (pv_load (ld_ptr hI rfl rfl rfl ti39 rfl)) ?_
              refine wo_store (st_ptrO vH1 hI rfl rfl rfl rfl ti39 rfl rfl rfl) ?_
              refine wo_val (.int .i64 0) rfl pv_assign ?_
              refine wo_nil ?_
              exact wr_ret (a := (l1, 0)) (vs := [v1, (.int .i64 0)]) Try.func17 hI (ares_cell (ld_ptr hI rfl rfl rfl ti39 rfl) (ares_tmp ares_nil)) (.tupL (.cons (own_fz vH1 (hI.at rfl rfl) (hI.out rfl) (fun x => ok_B x)) (.cons (.same _) .nil)))
    · refine wo_not (tj := 27) (b := true) rfl (congrArg AV.bool hb3) rfl rfl ?_
      refine wo_not (tj := 27) (b := true) rfl (congrArg AV.bool hb3) rfl rfl ?_
      refine wo_not (tj := 27) (b := true) rfl (congrArg AV.bool hb3) rfl rfl ?_
      refine wo_val (.bool true) rfl (pv_pick (t := true) (congrArg AV.bool hb3) rfl) ?_
      refine wo_back1 ?_
      refine wo_is [(0, (.int .i64 volumes)), (1, (.sl 3 (List.map rStation s))), (2, (.sl 3 (List.map rStatus l))), (3, (.int .i64 minute)), (8, (.ptr (ix ids 0) g 0 0)), (31, (.bool true))] (.cons rfl (.cons rfl (.cons rfl (.cons rfl (.cons rfl (.cons rfl .nil)))))) ?_
      exact hJ1 true _ _ ⟨rfl, rfl⟩
    · refine wo_valg (tj := 27) (.int .i64 minute) rfl (congrArg AV.bool hb3) rfl pv_move ?_
      refine of_call [(.int .i64 minute), (.int .i64 0), (.int .i64 1439)] rfl (wanted_yes (tj := 27) rfl (congrArg AV.bool hb3)) rfl rfl ((cp_radar_in minute 0 1439) _) (fun v _ => wu_pan Try.func17 hI) fun r1 _ => ?_
      refine wo_valg (tj := 27) (.bool (!r1)) rfl (congrArg AV.bool hb3) rfl (pv_un rfl) ?_
      refine wo_val (.bool (!r1)) rfl (pv_pick (t := false) (congrArg AV.bool hb3) rfl) ?_
      refine wo_back1 ?_
      refine wo_is [(0, (.int .i64 volumes)), (1, (.sl 3 (List.map rStation s))), (2, (.sl 3 (List.map rStatus l))), (3, (.int .i64 minute)), (8, (.ptr (ix ids 0) g 0 0)), (31, (.bool (!r1)))] (.cons rfl (.cons rfl (.cons rfl (.cons rfl (.cons rfl (.cons rfl .nil)))))) ?_
      exact hJ1 (!r1) _ _ ⟨rfl, rfl⟩
  · refine wo_not (tj := 22) (b := true) rfl (congrArg AV.bool hb1) rfl rfl ?_
    refine wo_not (tj := 22) (b := true) rfl (congrArg AV.bool hb1) rfl rfl ?_
    refine wo_not (tj := 22) (b := true) rfl (congrArg AV.bool hb1) rfl rfl ?_
    refine wo_val (.bool true) rfl (pv_pick (t := true) (congrArg AV.bool hb1) rfl) ?_
    exact wo_is [(0, (.int .i64 volumes)), (1, (.sl 3 (List.map rStation s))), (2, (.sl 3 (List.map rStatus l))), (3, (.int .i64 minute)), (8, (.ptr (ix ids 0) g 0 0)), (26, (.bool ((!r) || (decide ((s.length : Int) > 4)))))] (.cons rfl (.cons rfl (.cons rfl (.cons rfl (.cons rfl (.cons (or_t hb1) .nil)))))) hJ
  · refine wo_valg (tj := 22) (.sl 3 (List.map rStation s)) rfl (congrArg AV.bool hb1) rfl pv_move ?_
    refine wo_valg (tj := 22) (.int .i64 (s.length : Int)) rfl (congrArg AV.bool hb1) rfl (pv_len (len_sl ti35)) ?_
    refine wo_valg (tj := 22) (.bool (decide ((s.length : Int) > 4))) rfl (congrArg AV.bool hb1) rfl (pv_bin rfl rfl rfl) ?_
    refine wo_val (.bool (decide ((s.length : Int) > 4))) rfl (pv_pick (t := false) (congrArg AV.bool hb1) rfl) ?_
    exact wo_is [(0, (.int .i64 volumes)), (1, (.sl 3 (List.map rStation s))), (2, (.sl 3 (List.map rStatus l))), (3, (.int .i64 minute)), (8, (.ptr (ix ids 0) g 0 0)), (26, (.bool ((!r) || (decide ((s.length : Int) > 4)))))] (.cons rfl (.cons rfl (.cons rfl (.cons rfl (.cons rfl (.cons (or_f hb1) .nil)))))) hJ

theorem cg_slices_Sort_40 (l : List Int) (h0 : AHeap) (o0 : Nat) (v : AV) (g : Nat) (hv : OwnV v o0 g l.length) (hI0 : Ids h0 [o0] 1) : slices_Sort_40 l ≠ .bad → ACalls Try.prog 40 [v] (hp h0 [o0] [ownO v g 1 (l.map (rI .i64))]) (AnsG (fun a_ v' h' => v' = (.tup []) ∧ h' = hp h0 [o0] [ownO v g 1 ((sortI l).map (rI .i64))]) h0 (slices_Sort_40 l)) :=
  sort_calls hI0 (.mk Try.func40 rfl (by decide)) hv Go.Proofs.Try.slices_Sort_int Go.Proofs.Try.slices_Sort_int_none

theorem cg_slices_Compact_41 (l : List Int) (h0 : AHeap) (o0 : Nat) (v : AV) (g : Nat) (hv : OwnV v o0 g l.length) (hI0 : Ids h0 [o0] 1) : slices_Compact_41 l ≠ .bad → ACalls Try.prog 41 [v] (hp h0 [o0] [ownO v g 1 (l.map (rI .i64))]) (AnsG (fun a_ v' h' => ∃ v2, OwnV v2 o0 g (compactI l).length ∧ v2 = v' ∧ h' = hp h0 [o0] [ownO v2 g 1 ((compactI l).map (rI .i64))]) h0 (slices_Compact_41 l)) := fun hne =>
  (compact_calls hI0 (.mk Try.func41 rfl (by decide)) hv Go.Proofs.Try.slices_Compact_int Go.Proofs.Try.slices_Compact_int_empty hne).mono fun r h' => ansG_mono fun _ _ _ _ h => ⟨_, hv.comp, h.1.symm, h.2⟩

theorem cg_radar_changes_2 (l : (List Status)) (h0 : AHeap) (o0 : Nat) (o1 : Nat) (hI0 : Ids h0 [o0, o1] 2) : radar_changes_2 l ≠ .bad → ACalls Try.prog 33 [(.sl 3 (List.map rStatus l))] (hp h0 [o0, o1] [none, none]) (AnsG (fun a_ v h' => ∃ (v5 : AV), ∃ (g5 : Nat), ∃ (g6 : Nat), OwnV v5 o0 g5 a_.length ∧ v = (.func (.func 42) [] [(.ptr o1 g6 0 0)]) ∧ h' = hp h0 [o0, o1] [ownO v5 g5 1 (List.map (rI .i64) a_), some (.rows g6 1 [[v5]])]) h0 (radar_changes_2 l)) := by
  refine cpg_intro (n := 32) 1 Try.func33 rfl (by decide) rfl rfl hI0 rfl fun ids he hI => ?_
  clear hI0
  obtain rfl : ix ids 0 = o0 := he 0 rfl
  obtain rfl : ix ids 1 = o1 := he 1 rfl
  clear he
  refine wr_in (wr_mod (radar_changes_2.eq_1 _) ?_)
  refine wr_hp [none, none, none] rfl ?_
  refine wr_seq ?_
  refine wr_region ?_
  refine wo_val .nilf rfl pv_assign ?_
  refine wo_nil ?_
  refine wr_seq ?_
  refine wr_region ?_
  refine wo_bs (e := (rI .i64)) (L := [0, 1440]) (st := 1) (j := 0) (rows := [[(.int .i64 0)], [(.int .i64 1440)]]) hI rfl rfl rfl rfl ti36 ti3 rfl rfl rfl rfl rfl (.cons (RowSim.refl _) (.cons (RowSim.refl _) .nil)) (fun x => ok_I x) rfl rfl rfl fun v1 g vH => ?_
  refine wo_alloc (j := 1) hI rfl rfl rfl rfl ti36 rfl fun g1 => ?_
  refine wo_store (st_ptrO vH hI rfl rfl rfl rfl ti36 rfl rfl rfl) ?_
  refine wo_nil ?_
  refine wr_hp [(ownO v1 g 1 (List.map (rI .i64) [0, 1440])), (some (.rows g1 1 [[v1]])), none] rfl ?_
  refine wr_seq ?_
  refine wr_seq ?_
  refine wr_region ?_
  refine wo_val (.sl 3 (List.map rStatus l)) rfl pv_move ?_
  refine wo_val (.int .i64 (l.length : Int)) rfl (pv_len (len_sl ti22)) ?_
  refine wo_val (.int .i64 0) rfl pv_move ?_
  refine wo_nil ?_
  refine wr_block ?_
  refine wr_is [(3, (.ptr (ix ids 1) g1 0 0)), (7, (.sl 3 (List.map rStatus l))), (8, (.int .i64 (l.length : Int))), (9, (.int .i64 0))] (.cons rfl (.cons rfl (.cons rfl (.cons rfl .nil)))) ?_
  refine wf_eachS' (P := Try.prog) l (fun _ a => fun l1 => radar_changes_2_b1 a l1) (((fun l1 => (slices_Sort_40 l1).bind fun _ =>
  (slices_Compact_41 (sortI l1)).bind fun _ =>
  .ok (compactI (sortI l1)))) : (List Int) → R (List Int))
    (fun j => fun l1 => fun (fr : Nat → AV) (h : AHeap) => ∃ (v2 : AV), ∃ (g2 : Nat), OwnV v2 (ix ids 0) g2 l1.length ∧ fr = frA [(3, (.ptr (ix ids 1) g1 0 0)), (7, (.sl 3 (List.map rStatus l))), (8, (.int .i64 (l.length : Int))), (9, (.int .i64 (j : Int)))] ∧ h = hp h0 ids [(ownO v2 g2 1 (List.map (rI .i64) l1)), (some (.rows g1 1 [[v2]])), none]) [0, 1440] ?_ ?_ ?_
  · exact ⟨v1, g, vH, rfl, rfl⟩
  · rintro j a ha W hW l1 fr h ⟨v2, g2, vH1, rfl, rfl⟩
    refine wr_mod (m' := radar_changes_2_b1 a l1) rfl (wr_mod (radar_changes_2_b1.eq_1 _ _) ?_)
    refine wr_seq ?_
    refine wr_region ?_
    refine wo_val (.bool (decide ((j : Int) < (l.length : Int)))) rfl (pv_bin rfl rfl rfl) ?_
    refine wo_nil ?_
    refine wr_seq ?_
    refine wr_lim (t := 7) (L := l) rfl fun hlim => ?_
    refine wr_condT rfl (Int.ofNat_lt.2 (lt_of_get ha)) ?_
    refine wr_skip ?_
    refine wr_seq ?_
    refine wr_block ?_
    refine wr_seq ?_
    refine wr_region ?_
    refine wo_val (.cp (rStatus a) 0) rfl (pv_ixa (ixa_nat ti22 ti24 rfl ha)) ?_
    refine wo_val (.agg (rStatus a)) rfl (pv_load (ld_cp ti24 rfl)) ?_
    refine wo_alloc (j := 2) hI rfl rfl rfl rfl ti24 rfl fun g3 => ?_
    refine wo_store (st_ptr hI rfl rfl rfl rfl ti24 rfl rfl rfl rfl rfl) ?_
    refine wo_nil ?_
    refine wr_hp [(ownO v2 g2 1 (List.map (rI .i64) l1)), (some (.rows g1 1 [[v2]])), (some (.rows g3 3 [(rStatus a)]))] rfl ?_
    refine wr_seq ?_
    refine wr_region ?_
    refine wo_val (.ptr (ix ids 2) g3 0 1) rfl (pv_fa (fa_ptr (c := 0) (off := 1) (i := 1) ti24 rfl ti3 rfl)) ?_
    refine wo_val (.int .i64 a.From) rfl (pv_load (ld_ptr hI rfl rfl rfl ti3 rfl)) ?_
    refine wo_val (.bool (decide (a.From > 0))) rfl (pv_bin rfl rfl rfl) ?_
    refine wo_val (.bool (decide (a.From > 0))) rfl pv_move ?_
    refine wo_meet 4 [(3, (.ptr (ix ids 1) g1 0 0)), (5, (.ptr (ix ids 2) g3 0 0)), (7, (.sl 3 (List.map rStatus l))), (8, (.int .i64 (l.length : Int))), (9, (.int .i64 (j : Int))), (20, (.bool ((decide (a.From > 0)) && (decide (a.From < 1440)))))] ?_ fun hJ => wo_cases (decide (a.From > 0)) (fun hb1 => ?_) (fun hb1 => ?_)
    · refine wo_nil ?_
      refine wf_iteb rfl (fun hc => ?_) (fun hc => ?_)
      · refine wr_region ?_
        refine wo_val v2 rfl (pv_load (ld_ptr hI rfl rfl rfl ti36 rfl)) ?_
        refine wo_val (.ptr (ix ids 2) g3 0 1) rfl (pv_fa (fa_ptr (c := 0) (off := 1) (i := 1) ti24 rfl ti3 rfl)) ?_
        refine wo_val (.int .i64 a.From) rfl (pv_load (ld_ptr hI rfl rfl rfl ti3 rfl)) ?_
        refine wo_bsC (e := (rI .i64)) (L := [a.From]) (st := 1) (rows := [[(.int .i64 a.From)]]) rfl ti36 ti3 rfl rfl rfl rfl rfl (.cons (RowSim.refl _) .nil) (fun x => ok_I x) rfl rfl ?_
        refine of_need fun hl => ?_
        refine wo_append (e := (rI .i64)) (L := l1) (L2 := [a.From]) (v := v2) (g := g2) (st := 1) (j := 0) hI rfl rfl rfl rfl vH1 rfl (src_sl rfl) ti36 ti36 rfl ti3 rfl rfl rfl hl fun v3 g4 vH2 => ?_
        refine wo_store (st_ptrO vH2 hI rfl rfl rfl rfl ti36 rfl rfl rfl) ?_
        refine wo_nil ?_
        refine wr_hp [(ownO v3 g4 1 (List.map (rI .i64) (l1 ++ [a.From]))), (some (.rows g1 1 [[v3]])), (some (.rows g3 3 [(rStatus a)]))] rfl ?_
        refine wr_inBlock ?_
        refine wr_region ?_
        refine wo_val (.int .i64 (IntKind.wrap .i64 ((j : Int) + 1))) rfl (pv_bin rfl rfl rfl) ?_
        refine wo_val (.int .i64 (IntKind.wrap .i64 ((j : Int) + 1))) rfl pv_move ?_
        refine wo_nil ?_
        refine wr_drop [(ownO v3 g4 1 (List.map (rI .i64) (l1 ++ [a.From]))), (some (.rows g1 1 [[v3]])), none] hI rfl (.keep (.keep (.drop .nil))) ?_
        refine wr_is [(3, (.ptr (ix ids 1) g1 0 0)), (7, (.sl 3 (List.map rStatus l))), (8, (.int .i64 (l.length : Int))), (9, (.int .i64 ((j + 1 : Nat) : Int)))] (.cons rfl (.cons rfl (.cons rfl (.cons (inc_ok (lt_of_get ha) hlim) .nil)))) ?_
        refine wb_S ?_
        refine hW (l1 ++ [a.From]) _ _ ?_
        exact ⟨v3, g4, vH2, rfl, rfl⟩
      · refine wr_skip ?_
        refine wr_inBlock ?_
        refine wr_region ?_
        refine wo_val (.int .i64 (IntKind.wrap .i64 ((j : Int) + 1))) rfl (pv_bin rfl rfl rfl) ?_
        refine wo_val (.int .i64 (IntKind.wrap .i64 ((j : Int) + 1))) rfl pv_move ?_
        refine wo_nil ?_
        refine wr_drop [(ownO v2 g2 1 (List.map (rI .i64) l1)), (some (.rows g1 1 [[v2]])), none] hI rfl (.keep (.keep (.drop .nil))) ?_
        refine wr_is [(3, (.ptr (ix ids 1) g1 0 0)), (7, (.sl 3 (List.map rStatus l))), (8, (.int .i64 (l.length : Int))), (9, (.int .i64 ((j + 1 : Nat) : Int)))] (.cons rfl (.cons rfl (.cons rfl (.cons (inc_ok (lt_of_get ha) hlim) .nil)))) ?_
        refine wb_S ?_
        refine hW l1 _ _ ?_
        exact ⟨v2, g2, vH1, rfl, rfl⟩
    · refine wo_valg (tj := 16) (.ptr (ix ids 2) g3 0 1) rfl (congrArg AV.bool hb1) rfl (pv_fa (fa_ptr (c := 0) (off := 1) (i := 1) ti24 rfl ti3 rfl)) ?_
      refine wo_valg (tj := 16) (.int .i64 a.From) rfl (congrArg AV.bool hb1) rfl (pv_load (ld_ptr hI rfl rfl rfl ti3 rfl)) ?_
      refine wo_valg (tj := 16) (.bool (decide (a.From < 1440))) rfl (congrArg AV.bool hb1) rfl (pv_bin rfl rfl rfl) ?_
      refine wo_val (.bool (decide (a.From < 1440))) rfl (pv_pick (t := true) (congrArg AV.bool hb1) rfl) ?_
      exact wo_is [(3, (.ptr (ix ids 1) g1 0 0)), (5, (.ptr (ix ids 2) g3 0 0)), (7, (.sl 3 (List.map rStatus l))), (8, (.int .i64 (l.length : Int))), (9, (.int .i64 (j : Int))), (20, (.bool ((decide (a.From > 0)) && (decide (a.From < 1440)))))] (.cons rfl (.cons rfl (.cons rfl (.cons rfl (.cons rfl (.cons (and_t hb1) .nil)))))) hJ
    · refine wo_not (tj := 16) (b := false) rfl (congrArg AV.bool hb1) rfl rfl ?_
      refine wo_not (tj := 16) (b := false) rfl (congrArg AV.bool hb1) rfl rfl ?_
      refine wo_not (tj := 16) (b := false) rfl (congrArg AV.bool hb1) rfl rfl ?_
      refine wo_val (.bool false) rfl (pv_pick (t := false) (congrArg AV.bool hb1) rfl) ?_
      exact wo_is [(3, (.ptr (ix ids 1) g1 0 0)), (5, (.ptr (ix ids 2) g3 0 0)), (7, (.sl 3 (List.map rStatus l))), (8, (.int .i64 (l.length : Int))), (9, (.int .i64 (j : Int))), (20, (.bool ((decide (a.From > 0)) && (decide (a.From < 1440)))))] (.cons rfl (.cons rfl (.cons rfl (.cons rfl (.cons rfl (.cons (and_f hb1) .nil)))))) hJ
  · rintro l1 fr h ⟨v2, g2, vH1, rfl, rfl⟩
    refine wr_seq ?_
    refine wr_region ?_
    refine wo_val (.bool (decide ((l.length : Int) < (l.length : Int)))) rfl (pv_bin rfl rfl rfl) ?_
    refine wo_nil ?_
    refine wr_seq ?_
    refine wr_condF rfl (Int.lt_irrefl _) ?_
    refine wr_exit rfl ?_
    refine wr_seq ?_
    refine wr_region ?_
    refine wo_val v2 rfl (pv_load (ld_ptr hI rfl rfl rfl ti36 rfl)) ?_
    refine of_callG [0] hI rfl rfl (cg_slices_Sort_40 l1 _ (ix ids 0) v2 g2 vH1 (by exact hI.sub' rfl rfl)) rfl rfl rfl rfl rfl rfl (fun v _ => wu_panG (K := 2) (N := 1) Try.func33 hI) ?_
    rintro _ _ _ _ ⟨rfl, rfl⟩
    refine wo_putH [0] [ownO v2 g2 1 (List.map (rI .i64) (sortI l1)), some (.rows g1 1 [[v2]]), none] hI rfl rfl rfl rfl ?_
    refine wo_put1 ?_
    refine wo_nil ?_
    refine wr_hp [(ownO v2 g2 1 (List.map (rI .i64) (sortI l1))), (some (.rows g1 1 [[v2]])), none] rfl ?_
    refine wr_seq ?_
    refine wr_region ?_
    refine wo_val v2 rfl (pv_load (ld_ptr hI rfl rfl rfl ti36 rfl)) ?_
    refine of_callG [0] hI rfl rfl (cg_slices_Compact_41 (sortI l1) _ (ix ids 0) v2 g2 (OwnV.sort vH1) (by exact hI.sub' rfl rfl)) rfl rfl rfl rfl rfl rfl (fun v _ => wu_panG (K := 2) (N := 1) Try.func33 hI) ?_
    rintro _ _ _ _ ⟨v4, vH3, rfl, rfl⟩
    refine wo_putH [0] [ownO v4 g2 1 (List.map (rI .i64) (compactI (sortI l1))), some (.rows g1 1 [[v2]]), none] hI rfl rfl rfl rfl ?_
    refine wo_put1 ?_
    refine wo_store (st_ptrO vH3 hI rfl rfl rfl rfl ti36 rfl rfl rfl) ?_
    refine wo_nil ?_
    refine wr_hp [(ownO v4 g2 1 (List.map (rI .i64) (compactI (sortI l1)))), (some (.rows g1 1 [[v4]])), none] rfl ?_
    refine wr_seq ?_
    refine wr_region ?_
    refine wo_val (.func (.func 42) [] [(.ptr (ix ids 1) g1 0 0)]) rfl pv_func ?_
    refine wo_val (.func (.func 42) [] [(.ptr (ix ids 1) g1 0 0)]) rfl pv_assign ?_
    refine wo_nil ?_
    exact wr_retG (K := 2) (N := 1) (a := (compactI (sortI l1))) (vs := [(.func (.func 42) [] [(.ptr (ix ids 1) g1 0 0)])]) [ownO v4 g2 1 (List.map (rI .i64) (compactI (sortI l1))), some (.rows g1 1 [[v4]])] Try.func33 hI rfl rfl rfl (.keep (.keep (.keep .nil))) (.same _) ⟨v4, g2, g1, vH3, rfl, rfl⟩

theorem cy_radar_changes_c1 {σ_ : Type} (b : (List Int)) (b_ : Int → Int → σ_ → R σ_) (St_ : σ_ → AHeap → Prop) (y_ : YF) (o_ g_ : Nat) (hy_ : ∀ (a0_ : Int) (a1_ : Int), YOk Try.prog y_ o_ g_ [(.int .i64 a0_), (.int .i64 a1_)] St_ (b_ a0_ a1_)) (hnp_ : ∀ (a0_ : Int) (a1_ : Int) (s : σ_) (v : PV), b_ a0_ a1_ s ≠ .pan v) (s_ : σ_) (hh_ : AHeap) (hs_ : St_ s_ hh_) : radar_changes_c1 b b_ s_ ≠ .bad → ACalls Try.prog 42 [(.yld y_ o_ g_), (.cp [(.sl 1 (List.map (rI .i64) b))] 0)] hh_ (AnsY St_ (radar_changes_c1 b b_ s_)) := by
  refine cy_intro (n := 22) Try.func42 rfl (by decide) rfl rfl ?_
  refine wr_in (wr_mod (radar_changes_c1.eq_1 _ _ _) ?_)
  refine wr_seq ?_
  refine wr_region ?_
  refine wo_val (.int .i64 1) rfl pv_assign ?_
  refine wo_nil ?_
  refine wf_join (fun s2 => radar_changes_c1_j1 s2) (fun s2 => fun (fr : Nat → AV) (h : AHeap) => ∃ (hh2 : AHeap), St_ s2 hh2 ∧ fr = frA [] ∧ hh2 = h) ?_ fun hJ => ?_
  · rintro s2 fr h ⟨hh2, vHs2, rfl, rfl⟩
    refine wr_mod (radar_changes_c1_j1.eq_1 _) ?_
    exact wr_endY Try.func42 rfl vHs2
  · refine wr_block ?_
    refine wr_is [(0, (.yld y_ o_ g_)), (1, (.cp [(.sl 1 (List.map (rI .i64) b))] 0)), (3, (.int .i64 1))] (.cons rfl (.cons rfl (.cons rfl .nil))) ?_
    refine wf_loop' (P := Try.prog) (un2 fun i s => radar_changes_c1_b1 b b_ i s) ((fun s2 => radar_changes_c1_j1 s2) : σ_ → R σ_)
      (un2 fun i s => fun (fr : Nat → AV) (h : AHeap) => ∃ (hh : AHeap), St_ s hh ∧ fr = frA [(0, (.yld y_ o_ g_)), (1, (.cp [(.sl 1 (List.map (rI .i64) b))] 0)), (3, (.int .i64 i))] ∧ hh = h) (1, s_) ?_ ?_
    · exact ⟨_, hs_, rfl, rfl⟩
    · rintro vW hW ⟨i, s⟩ fr h ⟨hh, vHs, rfl, rfl⟩
      refine wr_mod (m' := radar_changes_c1_b1 b b_ i s) rfl (wr_mod (radar_changes_c1_b1.eq_1 _ _ _ _) ?_)
      refine wr_seq ?_
      refine wr_seq ?_
      refine wr_region ?_
      refine wo_val (.int .i64 i) rfl pv_move ?_
      refine wo_val (.sl 1 (List.map (rI .i64) b)) rfl (pv_load (ld_cp ti36 rfl)) ?_
      refine wo_val (.int .i64 (b.length : Int)) rfl (pv_len (len_sl ti36)) ?_
      refine wo_val (.bool (decide (i < (b.length : Int)))) rfl (pv_bin rfl rfl rfl) ?_
      refine wo_nil ?_
      refine wf_ite rfl (fun hc => ?_) (fun hc => ?_)
      · refine wr_skip ?_
        refine wr_seq ?_
        refine wr_block ?_
        refine wr_seq ?_
        refine wr_draw hmix [[], [], [], [2], [1, 2, 3], [1, 2, 3, 4], [], [], [6, 7], [6, 7, 8], [0, 1, 2, 3, 4, 5, 6, 7, 8, 9], [0, 1, 2, 3, 4, 5, 6, 7, 8, 9, 10]] [(false, 0), (false, 1), (false, 2), (false, 3), (false, 4), (false, 5), (false, 6), (false, 7), (false, 8), (false, 9), (true, 10), (false, 11)] (by kernel_rfl) ?_
        refine wp_val (.yld y_ o_ g_) rfl rfl pv_move ?_
        refine wp_val (.sl 1 (List.map (rI .i64) b)) rfl rfl (pv_load (ld_cp ti36 rfl)) ?_
        refine wp_val (.int .i64 i) rfl rfl pv_move ?_
        refine wp_val (.int .i64 (IntKind.wrap .i64 (i - 1))) rfl rfl (pv_bin rfl rfl rfl) ?_
        refine op_idx fun a hz hx1 => ?_
        refine wp_val (.cp [(.int .i64 a)] 0) rfl rfl (pv_ixa (ixa_sl ti36 ti3 rfl hz hx1)) ?_
        refine wp_val (.int .i64 a) rfl rfl (pv_load (ld_cp ti3 rfl)) ?_
        refine wp_val (.sl 1 (List.map (rI .i64) b)) rfl rfl (pv_load (ld_cp ti36 rfl)) ?_
        refine wp_val (.int .i64 i) rfl rfl pv_move ?_
        refine op_idx fun a1 hz1 hx2 => ?_
        refine wp_val (.cp [(.int .i64 a1)] 0) rfl rfl (pv_ixa (ixa_sl ti36 ti3 rfl hz1 hx2)) ?_
        refine wp_val (.int .i64 a1) rfl rfl (pv_load (ld_cp ti3 rfl)) ?_
        refine wp_yield (b := b_ a a1) rfl rfl rfl rfl vHs (hy_ a a1) (hnp_ a a1 _) (fun _ => (pend_yes rfl (pend_yes rfl (pend_yes rfl (pend_yes rfl (pend_yes rfl (pend_yes rfl (pend_yes rfl (pend_yes rfl (pend_yes rfl (pend_yes rfl pend_nil))))))))))) fun s1 hb hh1 vHs1 => ?_
        refine wp_val (.bool false) rfl rfl (pv_un rfl) ?_
        refine wp_nil ?_
        refine wr_cond false rfl ?_
        refine wr_skip ?_
        refine wr_inBlock ?_
        refine wr_region ?_
        refine wo_val (.int .i64 i) rfl pv_move ?_
        refine wo_val (.int .i64 (IntKind.wrap .i64 (i + 1))) rfl (pv_bin rfl rfl rfl) ?_
        refine wo_val (.int .i64 (IntKind.wrap .i64 (i + 1))) rfl pv_assign ?_
        refine wo_nil ?_
        refine wr_is [(0, (.yld y_ o_ g_)), (1, (.cp [(.sl 1 (List.map (rI .i64) b))] 0)), (3, (.int .i64 (IntKind.wrap .i64 (i + 1))))] (.cons rfl (.cons rfl (.cons rfl .nil))) ?_
        refine wb_loop ?_
        refine hW ((IntKind.wrap .i64 (i + 1)), s1) _ _ ?_
        exact ⟨_, vHs1, rfl, rfl⟩
      · refine wr_exit rfl ?_
        refine wx_loop ?_
        refine wr_is [] .nil ?_
        refine hJ s _ _ ?_
        exact ⟨_, vHs, rfl, rfl⟩

theorem cp_slices_Index_int (s : (List Int)) (v : Int) : CP Try.prog 43 [(.sl 1 (List.map (rI .i64) s)), (.int .i64 v)] (slices_Index_int s v) (fun (x : Int) => (AV.int .i64 x)) := by
  refine cp_intro (n := 19) 0 Try.func43 rfl (by decide) rfl rfl fun h0 ids hI => ?_
  refine wr_in (wr_mod (slices_Index_int.eq_1 _ _) ?_)
  refine wr_seq ?_
  refine wr_region ?_
  refine wo_val (.int .i64 0) rfl pv_assign ?_
  refine wo_nil ?_
  refine wr_seq ?_
  refine wr_seq ?_
  refine wr_region ?_
  refine wo_val (.sl 1 (List.map (rI .i64) s)) rfl pv_move ?_
  refine wo_val (.int .i64 (s.length : Int)) rfl (pv_len (len_sl ti36)) ?_
  refine wo_val (.int .i64 0) rfl pv_move ?_
  refine wo_nil ?_
  refine wr_block ?_
  refine wr_is [(0, (.sl 1 (List.map (rI .i64) s))), (1, (.int .i64 v)), (7, (.int .i64 (s.length : Int))), (8, (.int .i64 0))] (.cons rfl (.cons rfl (.cons rfl (.cons rfl .nil)))) ?_
  refine wf_each' (P := Try.prog) s (fun j a => fun _ => slices_Index_int_b1 v j a) ((alt (fun _ => .ok (-1)) (fun r => .ok r)) : (Unit ⊕ Int) → R Int)
    (fun j => fun _ => fun (fr : Nat → AV) (h : AHeap) => fr = frA [(0, (.sl 1 (List.map (rI .i64) s))), (1, (.int .i64 v)), (7, (.int .i64 (s.length : Int))), (8, (.int .i64 (j : Int)))] ∧ h = hp h0 ids []) () ?_ ?_ ?_
  · exact ⟨rfl, rfl⟩
  · rintro j a ha W hW _ fr h ⟨rfl, rfl⟩
    refine wr_mod (m' := slices_Index_int_b1 v j a) rfl (wr_mod (slices_Index_int_b1.eq_1 _ _ _) ?_)
    refine wr_seq ?_
    refine wr_region ?_
    refine wo_val (.bool (decide ((j : Int) < (s.length : Int)))) rfl (pv_bin rfl rfl rfl) ?_
    refine wo_nil ?_
    refine wr_seq ?_
    refine wr_lim (t := 0) (L := s) rfl fun hlim => ?_
    refine wr_condT rfl (Int.ofNat_lt.2 (lt_of_get ha)) ?_
    refine wr_skip ?_
    refine wr_seq ?_
    refine wr_block ?_
    refine wr_seq ?_
    refine wr_region ?_
    refine wo_val (.int .i64 (j : Int)) rfl pv_move ?_
    refine wo_val (.int .i64 (j : Int)) rfl pv_assign ?_
    refine wo_nil ?_
    refine wr_seq ?_
    refine wr_region ?_
    refine wo_val (.int .i64 v) rfl pv_move ?_
    refine wo_val (.sl 1 (List.map (rI .i64) s)) rfl pv_move ?_
    refine wo_val (.int .i64 (j : Int)) rfl pv_move ?_
    refine wo_val (.cp [(.int .i64 a)] 0) rfl (pv_ixa (ixa_nat ti36 ti3 rfl ha)) ?_
    refine wo_val (.int .i64 a) rfl (pv_load (ld_cp ti3 rfl)) ?_
    refine wo_val (.bool (v == a)) rfl (pv_bin rfl rfl rfl) ?_
    refine wo_nil ?_
    refine wf_iteb rfl (fun hc => ?_) (fun hc => ?_)
    · refine wr_seq ?_
      refine wr_region ?_
      refine wo_val (.int .i64 (j : Int)) rfl pv_move ?_
      refine wo_val (.int .i64 (j : Int)) rfl pv_assign ?_
      refine wo_nil ?_
      refine wx_each ?_
      refine w_altr ?_
      exact wr_ret (a := (j : Int)) (vs := [(.int .i64 (j : Int))]) Try.func43 hI rfl (.same _)
    · refine wr_skip ?_
      refine wr_inBlock ?_
      refine wr_region ?_
      refine wo_val (.int .i64 (IntKind.wrap .i64 ((j : Int) + 1))) rfl (pv_bin rfl rfl rfl) ?_
      refine wo_val (.int .i64 (IntKind.wrap .i64 ((j : Int) + 1))) rfl pv_move ?_
      refine wo_nil ?_
      refine wr_is [(0, (.sl 1 (List.map (rI .i64) s))), (1, (.int .i64 v)), (7, (.int .i64 (s.length : Int))), (8, (.int .i64 ((j + 1 : Nat) : Int)))] (.cons rfl (.cons rfl (.cons rfl (.cons (inc_ok (lt_of_get ha) hlim) .nil)))) ?_
      refine wb_each ?_
      refine hW () _ _ ?_
      exact ⟨rfl, rfl⟩
  · rintro _ fr h ⟨rfl, rfl⟩
    refine wr_mod (alt_inl _ _ _) ?_
    refine wr_seq ?_
    refine wr_region ?_
    refine wo_val (.bool (decide ((s.length : Int) < (s.length : Int)))) rfl (pv_bin rfl rfl rfl) ?_
    refine wo_nil ?_
    refine wr_seq ?_
    refine wr_condF rfl (Int.lt_irrefl _) ?_
    refine wr_exit rfl ?_
    refine wr_seq ?_
    refine wr_region ?_
    refine wo_val (.int .i64 (-1)) rfl pv_assign ?_
    refine wo_nil ?_
    exact wr_ret (a := (-1)) (vs := [(.int .i64 (-1))]) Try.func43 hI rfl (.same _)

theorem cp_slices_Contains_int (s : (List Int)) (v : Int) : CP Try.prog 34 [(.sl 1 (List.map (rI .i64) s)), (.int .i64 v)] (slices_Contains_int s v) (fun (x : Bool) => (AV.bool x)) := by
  refine cp_intro (n := 9) 0 Try.func34 rfl (by decide) rfl rfl fun h0 ids hI => ?_
  refine wr_in (wr_mod (slices_Contains_int.eq_1 _ _) ?_)
  refine wr_seq ?_
  refine wr_region ?_
  refine wo_val (.bool false) rfl pv_assign ?_
  refine wo_nil ?_
  refine wr_seq ?_
  refine wr_region ?_
  refine wo_val (.sl 1 (List.map (rI .i64) s)) rfl pv_move ?_
  refine wo_val (.int .i64 v) rfl pv_move ?_
  refine of_call [(.sl 1 (List.map (rI .i64) s)), (.int .i64 v)] rfl rfl rfl rfl ((cp_slices_Index_int s v) _) (fun v _ => wu_pan Try.func34 hI) fun r _ => ?_
  refine wo_val (.bool (decide (r ≥ 0))) rfl (pv_bin rfl rfl rfl) ?_
  refine wo_val (.bool (decide (r ≥ 0))) rfl pv_assign ?_
  refine wo_nil ?_
  exact wr_ret (a := (decide (r ≥ 0))) (vs := [(.bool (decide (r ≥ 0)))]) Try.func34 hI rfl (.same _)

theorem cp_radar_Lost (volume : Int) (s : (List Station)) (l : (List Status)) : CP Try.prog 19 [(.int .i64 volume), (.sl 3 (List.map rStation s)), (.sl 3 (List.map rStatus l))] (radar_Lost volume s l) (fun (x : (List Span)) => (AV.sl 2 (List.map rSpan x))) := by
  refine cp_intro (n := 68) 9 Try.func19 rfl (by decide) rfl rfl fun h0 ids hI => ?_
  refine wr_in (wr_mod (radar_Lost.eq_1 _ _ _) ?_)
  refine wr_star ?_
  refine wr_seq ?_
  refine wr_region ?_
  refine wo_box (v := (.int .i64 volume)) (j := 0) hI rfl rfl rfl rfl rfl rfl rfl fun g => ?_
  refine wo_box (v := (.sl 3 (List.map rStation s))) (j := 1) hI rfl rfl rfl rfl rfl rfl rfl fun g1 => ?_
  refine wo_box (v := (.sl 3 (List.map rStatus l))) (j := 2) hI rfl rfl rfl rfl rfl rfl rfl fun g2 => ?_
  refine wo_alloc (j := 3) hI rfl rfl rfl rfl ti46 rfl fun g3 => ?_
  refine wo_nil ?_
  refine wr_hp [(some (.rows g 1 [[(.int .i64 volume)]])), (some (.rows g1 1 [[(.sl 3 (List.map rStation s))]])), (some (.rows g2 1 [[(.sl 3 (List.map rStatus l))]])), (some (.rows g3 1 [[.emp]])), none, none, none, none, none] rfl ?_
  refine wr_seq ?_
  refine wr_seq ?_
  refine wr_region ?_
  refine wo_val (.sl 3 (List.map rStatus l)) rfl (pv_load (ld_ptr hI rfl rfl rfl ti22 rfl)) ?_
  refine of_callG [4, 5] hI rfl rfl (cg_radar_changes_2 l _ (ix ids 4) (ix ids 5) (by exact hI.sub' rfl rfl)) rfl rfl rfl rfl rfl rfl (fun v _ => wu_star (wu_pan Try.func19 hI)) ?_
  rintro r _ _ _ ⟨v, g4, g5, vH, rfl, rfl⟩
  refine wo_putH [4, 5] [some (.rows g 1 [[(.int .i64 volume)]]), some (.rows g1 1 [[(.sl 3 (List.map rStation s))]]), some (.rows g2 1 [[(.sl 3 (List.map rStatus l))]]), some (.rows g3 1 [[.emp]]), ownO v g4 1 (List.map (rI .i64) r), some (.rows g5 1 [[v]]), none, none, none] hI rfl rfl rfl rfl ?_
  refine wo_put1 ?_
  refine wo_nil ?_
  refine wr_hp [(some (.rows g 1 [[(.int .i64 volume)]])), (some (.rows g1 1 [[(.sl 3 (List.map rStation s))]])), (some (.rows g2 1 [[(.sl 3 (List.map rStatus l))]])), (some (.rows g3 1 [[.emp]])), (ownO v g4 1 (List.map (rI .i64) r)), (some (.rows g5 1 [[v]])), none, none, none] rfl ?_
  refine wr_block ?_
  refine wr_frz (h2 := hp h0 ids [(some (.rows g 1 [[(.int .i64 volume)]])), (some (.rows g1 1 [[(.sl 3 (List.map rStation s))]])), (some (.rows g2 1 [[(.sl 3 (List.map rStatus l))]])), (some (.rows g3 1 [[.emp]])), none, none, none, none, none]) [(3, (.ptr (ix ids 0) g 0 0)), (4, (.ptr (ix ids 1) g1 0 0)), (5, (.ptr (ix ids 2) g2 0 0)), (6, (.ptr (ix ids 3) g3 0 0)), (13, (.func (.func 42) [] [(.cp [(.sl 1 (List.map (rI .i64) r))] 0)]))] (Drops.sub (.keep (.keep (.keep (.keep (.drop (.drop (.keep (.keep (.keep .nil))))))))) hI.len) (.cons (.same _) (.cons (.same _) (.cons (.same _) (.cons (.same _) (.cons (.funcL .nil (.cons (.ptrL (hI.at rfl rfl) (hI.at rfl rfl) rfl (.cons (own_fz vH (hI.at rfl rfl) (hI.at rfl rfl) (fun x => ok_I x)) .nil)) .nil)) .nil))))) rfl rfl ?_
  refine wr_is [(3, (.ptr (ix ids 0) g 0 0)), (4, (.ptr (ix ids 1) g1 0 0)), (5, (.ptr (ix ids 2) g2 0 0)), (6, (.ptr (ix ids 3) g3 0 0)), (13, (.func (.func 42) [] [(.cp [(.sl 1 (List.map (rI .i64) r))] 0)]))] (.cons rfl (.cons rfl (.cons rfl (.cons rfl (.cons rfl .nil))))) ?_
  refine wf_rangeFunc (P := Try.prog) 6 (fun (gL : Nat) (r_L : Loop) => fun l1 => fun (h1 : AHeap) => ∃ (v1 : AV), ∃ (g6 : Nat), OwnV v1 (ix ids 8) g6 l1.length ∧ h1 = hp h0 ids [(some (.rows g 1 [[(.int .i64 volume)]])), (some (.rows g1 1 [[(.sl 3 (List.map rStation s))]])), (some (.rows g2 1 [[(.sl 3 (List.map rStatus l))]])), (some (.rows g3 1 [[v1]])), none, none, (some (.blk gL (.loop r_L))), none, (ownO v1 g6 2 (List.map rSpan l1))] : Nat → Loop → (List Span) → AHeap → Prop) rfl rfl hI rfl rfl rfl fun gL y_L r_L hl_L hy_L => ⟨?_, ?_, ?_, ?_⟩
  · refine cy_radar_changes_c1 r _ _ _ _ _ (fun a a1 => yok_intro hl_L (by decide) rfl hy_L ?_ ?_) (fun _ _ _ _ => R.np_ne _ _) _ _ ?_
    · rintro l1 _ ⟨v1, g6, vH1, rfl⟩
      exact hI.at rfl rfl
    · rintro lo_ l1 _ ⟨v1, g6, vH1, rfl⟩
      refine wr_np (wr_in (wr_mod (m' := radar_Lost_b2 volume s l a a1 l1) rfl (wr_mod (radar_Lost_b2.eq_1 _ _ _ _ _ _) ?_)))
      refine wr_frl [(15, (.int .i64 a1)), (14, (.int .i64 a)), (3, (.ptr (ix ids 0) g 0 0)), (4, (.ptr (ix ids 1) g1 0 0)), (5, (.ptr (ix ids 2) g2 0 0)), (6, (.ptr (ix ids 3) g3 0 0)), (13, (.func (.func 42) [] [(.cp [(.sl 1 (List.map (rI .i64) r))] 0)]))] (frPut_frA _ _ _) ?_
      refine wr_seq ?_
      refine wr_region ?_
      refine wo_val (.int .i64 a) rfl pv_assign ?_
      refine wo_nil ?_
      refine wr_region ?_
      refine wo_val (.int .i64 a1) rfl pv_assign ?_
      refine wo_nil ?_
      refine wr_beginRoundH hI rfl rfl rfl hl_L.ready ?_
      refine wr_hp [(some (.rows g 1 [[(.int .i64 volume)]])), (some (.rows g1 1 [[(.sl 3 (List.map rStation s))]])), (some (.rows g2 1 [[(.sl 3 (List.map rStatus l))]])), (some (.rows g3 1 [[v1]])), none, none, (some (.blk gL (.loop { r_L with state := .busy }))), none, (ownO v1 g6 2 (List.map rSpan l1))] rfl ?_
      refine wr_block ?_
      refine wr_seq ?_
      refine wr_region ?_
      refine wo_val (.bool false) rfl pv_assign ?_
      refine wo_nil ?_
      refine wr_seq ?_
      refine wr_seq ?_
      refine wr_region ?_
      refine wo_val (.sl 3 (List.map rStation s)) rfl (pv_load (ld_ptr hI rfl rfl rfl ti35 rfl)) ?_
      refine wo_val (.int .i64 (s.length : Int)) rfl (pv_len (len_sl ti35)) ?_
      refine wo_val (.int .i64 0) rfl pv_move ?_
      refine wo_nil ?_
      refine wr_block ?_
      refine wr_is [(3, (.ptr (ix ids 0) g 0 0)), (4, (.ptr (ix ids 1) g1 0 0)), (5, (.ptr (ix ids 2) g2 0 0)), (6, (.ptr (ix ids 3) g3 0 0)), (7, (.int .i64 a)), (8, (.int .i64 a1)), (9, (.bool false)), (16, (.sl 3 (List.map rStation s))), (17, (.int .i64 (s.length : Int))), (18, (.int .i64 0))] (.cons rfl (.cons rfl (.cons rfl (.cons rfl (.cons rfl (.cons rfl (.cons rfl (.cons rfl (.cons rfl (.cons rfl .nil)))))))))) ?_
      refine wf_eachS' (P := Try.prog) s (fun j a2 => fun seen => radar_Lost_b1 volume l a j a2 seen) (((fun seen => if seen then
(.ok l1)
else
((if (decide ((l1.length : Int) > 0)) then (idx l1 (IntKind.wrap .i64 ((l1.length : Int) - 1))).bind fun a3 =>
  R.ok (a3.To == a) else R.ok false).bind (fun (b2 : Bool) => if b2 then
((idx l1 (IntKind.wrap .i64 ((l1.length : Int) - 1))).bind fun a4 =>
  .ok (l1.set (IntKind.wrap .i64 ((l1.length : Int) - 1)).toNat { a4 with To := a1 }))
else
(if (l1.length + [({ From := a, To := a1 } : Span)].length) * 16 ≤ LIM then
  .ok (l1 ++ [({ From := a, To := a1 } : Span)]) else .bad))))) : Bool → R (List Span))
        (fun j => fun seen => fun (fr : Nat → AV) (h : AHeap) => fr = frA [(3, (.ptr (ix ids 0) g 0 0)), (4, (.ptr (ix ids 1) g1 0 0)), (5, (.ptr (ix ids 2) g2 0 0)), (6, (.ptr (ix ids 3) g3 0 0)), (7, (.int .i64 a)), (8, (.int .i64 a1)), (9, (.bool seen)), (16, (.sl 3 (List.map rStation s))), (17, (.int .i64 (s.length : Int))), (18, (.int .i64 (j : Int)))] ∧ h = hp h0 ids [(some (.rows g 1 [[(.int .i64 volume)]])), (some (.rows g1 1 [[(.sl 3 (List.map rStation s))]])), (some (.rows g2 1 [[(.sl 3 (List.map rStatus l))]])), (some (.rows g3 1 [[v1]])), none, none, (some (.blk gL (.loop { r_L with state := .busy }))), none, (ownO v1 g6 2 (List.map rSpan l1))]) false ?_ ?_ ?_
      · exact ⟨rfl, rfl⟩
      · rintro j a2 ha2 W hW seen fr h ⟨rfl, rfl⟩
        refine wr_mod (m' := radar_Lost_b1 volume l a j a2 seen) rfl (wr_mod (radar_Lost_b1.eq_1 _ _ _ _ _ _) ?_)
        refine wr_seq ?_
        refine wr_region ?_
        refine wo_val (.bool (decide ((j : Int) < (s.length : Int)))) rfl (pv_bin rfl rfl rfl) ?_
        refine wo_nil ?_
        refine wr_seq ?_
        refine wr_lim (t := 16) (L := s) rfl fun hlim => ?_
        refine wr_condT rfl (Int.ofNat_lt.2 (lt_of_get ha2)) ?_
        refine wr_skip ?_
        refine wr_seq ?_
        refine wr_block ?_
        refine wr_seq ?_
        refine wr_region ?_
        refine wo_val (.int .i64 (j : Int)) rfl pv_move ?_
        refine wo_val (.cp (rStation a2) 0) rfl (pv_ixa (ixa_nat ti35 ti38 rfl ha2)) ?_
        refine wo_val (.agg (rStation a2)) rfl (pv_load (ld_cp ti38 rfl)) ?_
        refine wo_alloc (j := 7) hI rfl rfl rfl rfl ti38 rfl fun g7 => ?_
        refine wo_val (.int .i64 (j : Int)) rfl pv_assign ?_
        refine wo_store (st_ptr hI rfl rfl rfl rfl ti38 rfl rfl rfl rfl rfl) ?_
        refine wo_nil ?_
        refine wr_hp [(some (.rows g 1 [[(.int .i64 volume)]])), (some (.rows g1 1 [[(.sl 3 (List.map rStation s))]])), (some (.rows g2 1 [[(.sl 3 (List.map rStatus l))]])), (some (.rows g3 1 [[v1]])), none, none, (some (.blk gL (.loop { r_L with state := .busy }))), (some (.rows g7 3 [(rStation a2)])), (ownO v1 g6 2 (List.map rSpan l1))] rfl ?_
        refine wr_region ?_
        refine wo_val (.bool seen) rfl pv_move ?_
        refine wo_val (.bool seen) rfl pv_move ?_
        refine wo_join 11 ((fun (b : Bool) => .ok b) : Bool → R Bool) (fun (b : Bool) (fr : Nat → AV) (h : AHeap) => fr = frA [(3, (.ptr (ix ids 0) g 0 0)), (4, (.ptr (ix ids 1) g1 0 0)), (5, (.ptr (ix ids 2) g2 0 0)), (6, (.ptr (ix ids 3) g3 0 0)), (7, (.int .i64 a)), (8, (.int .i64 a1)), (16, (.sl 3 (List.map rStation s))), (17, (.int .i64 (s.length : Int))), (18, (.int .i64 (j : Int))), (35, (.bool b))] ∧ h = hp h0 ids [(some (.rows g 1 [[(.int .i64 volume)]])), (some (.rows g1 1 [[(.sl 3 (List.map rStation s))]])), (some (.rows g2 1 [[(.sl 3 (List.map rStatus l))]])), (some (.rows g3 1 [[v1]])), none, none, (some (.blk gL (.loop { r_L with state := .busy }))), (some (.rows g7 3 [(rStation a2)])), (ownO v1 g6 2 (List.map rSpan l1))]) ?_ fun hJ => of_if1 (fun hb1 => ?_) (fun hb1 => ?_)
        · rintro b fr h ⟨rfl, rfl⟩
          refine wo_val (.bool b) rfl pv_assign ?_
          refine wo_nil ?_
          refine wr_inBlock ?_
          refine wr_region ?_
          refine wo_val (.int .i64 (IntKind.wrap .i64 ((j : Int) + 1))) rfl (pv_bin rfl rfl rfl) ?_
          refine wo_val (.int .i64 (IntKind.wrap .i64 ((j : Int) + 1))) rfl pv_move ?_
          refine wo_nil ?_
          refine wr_drop [(some (.rows g 1 [[(.int .i64 volume)]])), (some (.rows g1 1 [[(.sl 3 (List.map rStation s))]])), (some (.rows g2 1 [[(.sl 3 (List.map rStatus l))]])), (some (.rows g3 1 [[v1]])), none, none, (some (.blk gL (.loop { r_L with state := .busy }))), none, (ownO v1 g6 2 (List.map rSpan l1))] hI rfl (.keep (.keep (.keep (.keep (.keep (.keep (.keep (.drop (.keep .nil))))))))) ?_
          refine wr_is [(3, (.ptr (ix ids 0) g 0 0)), (4, (.ptr (ix ids 1) g1 0 0)), (5, (.ptr (ix ids 2) g2 0 0)), (6, (.ptr (ix ids 3) g3 0 0)), (7, (.int .i64 a)), (8, (.int .i64 a1)), (9, (.bool b)), (16, (.sl 3 (List.map rStation s))), (17, (.int .i64 (s.length : Int))), (18, (.int .i64 ((j + 1 : Nat) : Int)))] (.cons rfl (.cons rfl (.cons rfl (.cons rfl (.cons rfl (.cons rfl (.cons rfl (.cons rfl (.cons rfl (.cons (inc_ok (lt_of_get ha2) hlim) .nil)))))))))) ?_
          refine wb_S ?_
          refine hW b _ _ ?_
          exact ⟨rfl, rfl⟩
        · refine wo_not (tj := 24) (b := true) rfl (congrArg AV.bool hb1) rfl rfl ?_
          refine wo_not (tj := 24) (b := true) rfl (congrArg AV.bool hb1) rfl rfl ?_
          refine wo_not (tj := 24) (b := true) rfl (congrArg AV.bool hb1) rfl rfl ?_
          refine wo_not (tj := 24) (b := true) rfl (congrArg AV.bool hb1) rfl rfl ?_
          refine wo_not (tj := 24) (b := true) rfl (congrArg AV.bool hb1) rfl rfl ?_
          refine wo_notu (tj := 29) rfl rfl rfl ?_
          refine wo_notu (tj := 29) rfl rfl rfl ?_
          refine wo_notu (tj := 29) rfl rfl rfl ?_
          refine wo_notu (tj := 29) rfl rfl rfl ?_
          refine wo_not (tj := 24) (b := true) rfl (congrArg AV.bool hb1) rfl rfl ?_
          refine wo_val (.bool true) rfl (pv_pick (t := true) (congrArg AV.bool hb1) rfl) ?_
          refine wo_back1 ?_
          refine wo_is [(3, (.ptr (ix ids 0) g 0 0)), (4, (.ptr (ix ids 1) g1 0 0)), (5, (.ptr (ix ids 2) g2 0 0)), (6, (.ptr (ix ids 3) g3 0 0)), (7, (.int .i64 a)), (8, (.int .i64 a1)), (16, (.sl 3 (List.map rStation s))), (17, (.int .i64 (s.length : Int))), (18, (.int .i64 (j : Int))), (35, (.bool true))] (.cons rfl (.cons rfl (.cons rfl (.cons rfl (.cons rfl (.cons rfl (.cons rfl (.cons rfl (.cons rfl (.cons rfl .nil)))))))))) ?_
          exact hJ true _ _ ⟨rfl, rfl⟩
        · refine wo_valg (tj := 24) (.ptr (ix ids 7) g7 0 0) rfl (congrArg AV.bool hb1) rfl (pv_fa (fa_ptr (c := 0) (off := 0) (i := 0) ti38 rfl ti36 rfl)) ?_
          refine wo_valg (tj := 24) (.sl 1 (List.map (rI .i64) a2.Volumes)) rfl (congrArg AV.bool hb1) rfl (pv_load (ld_ptr hI rfl rfl rfl ti36 rfl)) ?_
          refine wo_valg (tj := 24) (.int .i64 volume) rfl (congrArg AV.bool hb1) rfl (pv_load (ld_ptr hI rfl rfl rfl ti3 rfl)) ?_
          refine of_call [(.sl 1 (List.map (rI .i64) a2.Volumes)), (.int .i64 volume)] rfl (wanted_yes (tj := 24) rfl (congrArg AV.bool hb1)) rfl rfl ((cp_slices_Contains_int a2.Volumes volume) _) (fun v _ => wu_B) fun r1 _ => ?_
          refine wo_valg (tj := 24) (.bool r1) rfl (congrArg AV.bool hb1) rfl pv_move ?_
          refine wo_join 5 ((fun (b1 : Bool) => R.ok b1) : Bool → R Bool) (fun (b1 : Bool) (fr : Nat → AV) (h : AHeap) => fr = frA [(3, (.ptr (ix ids 0) g 0 0)), (4, (.ptr (ix ids 1) g1 0 0)), (5, (.ptr (ix ids 2) g2 0 0)), (6, (.ptr (ix ids 3) g3 0 0)), (7, (.int .i64 a)), (8, (.int .i64 a1)), (16, (.sl 3 (List.map rStation s))), (17, (.int .i64 (s.length : Int))), (18, (.int .i64 (j : Int))), (24, (.bool seen)), (25, (.ptr (ix ids 7) g7 0 0)), (26, (.sl 1 (List.map (rI .i64) a2.Volumes))), (27, (.int .i64 volume)), (28, (.bool r1)), (29, (.bool r1)), (34, (.bool b1))] ∧ h = hp h0 ids [(some (.rows g 1 [[(.int .i64 volume)]])), (some (.rows g1 1 [[(.sl 3 (List.map rStation s))]])), (some (.rows g2 1 [[(.sl 3 (List.map rStatus l))]])), (some (.rows g3 1 [[v1]])), none, none, (some (.blk gL (.loop { r_L with state := .busy }))), (some (.rows g7 3 [(rStation a2)])), (ownO v1 g6 2 (List.map rSpan l1))]) ?_ fun hJ1 => of_if1 (fun hb3 => ?_) (fun hb3 => ?_)
          · rintro b1 fr h ⟨rfl, rfl⟩
            refine wo_val (.bool b1) rfl (pv_pick (t := false) (congrArg AV.bool hb1) rfl) ?_
            refine wo_back1 ?_
            refine wo_is [(3, (.ptr (ix ids 0) g 0 0)), (4, (.ptr (ix ids 1) g1 0 0)), (5, (.ptr (ix ids 2) g2 0 0)), (6, (.ptr (ix ids 3) g3 0 0)), (7, (.int .i64 a)), (8, (.int .i64 a1)), (16, (.sl 3 (List.map rStation s))), (17, (.int .i64 (s.length : Int))), (18, (.int .i64 (j : Int))), (35, (.bool b1))] (.cons rfl (.cons rfl (.cons rfl (.cons rfl (.cons rfl (.cons rfl (.cons rfl (.cons rfl (.cons rfl (.cons rfl .nil)))))))))) ?_
            exact hJ b1 _ _ ⟨rfl, rfl⟩
          · refine wo_valg (tj := 29) (.sl 3 (List.map rStatus l)) rfl (congrArg AV.bool hb3) rfl (pv_load (ld_ptr hI rfl rfl rfl ti22 rfl)) ?_
            refine wo_valg (tj := 29) (.int .i64 (j : Int)) rfl (congrArg AV.bool hb3) rfl pv_move ?_
            refine wo_valg (tj := 29) (.int .i64 a) rfl (congrArg AV.bool hb3) rfl pv_move ?_
            refine of_call [(.sl 3 (List.map rStatus l)), (.int .i64 (j : Int)), (.int .i64 a)] rfl (wanted_yes (tj := 29) rfl (congrArg AV.bool hb3)) rfl rfl ((cp_radar_Works l (j : Int) a) _) (fun v _ => wu_B) fun r2 _ => ?_
            refine wo_valg (tj := 24) (.bool r2) rfl (congrArg AV.bool hb1) rfl (pv_pick (t := true) (congrArg AV.bool hb3) rfl) ?_
            refine wo_back1 ?_
            refine wo_is [(3, (.ptr (ix ids 0) g 0 0)), (4, (.ptr (ix ids 1) g1 0 0)), (5, (.ptr (ix ids 2) g2 0 0)), (6, (.ptr (ix ids 3) g3 0 0)), (7, (.int .i64 a)), (8, (.int .i64 a1)), (16, (.sl 3 (List.map rStation s))), (17, (.int .i64 (s.length : Int))), (18, (.int .i64 (j : Int))), (24, (.bool seen)), (25, (.ptr (ix ids 7) g7 0 0)), (26, (.sl 1 (List.map (rI .i64) a2.Volumes))), (27, (.int .i64 volume)), (28, (.bool r1)), (29, (.bool r1)), (34, (.bool r2))] (.cons rfl (.cons rfl (.cons rfl (.cons rfl (.cons rfl (.cons rfl (.cons rfl (.cons rfl (.cons rfl (.cons rfl (.cons rfl (.cons rfl (.cons rfl (.cons rfl (.cons rfl (.cons rfl .nil)))))))))))))))) ?_
            exact hJ1 r2 _ _ ⟨rfl, rfl⟩
          · refine wo_not (tj := 29) (b := false) rfl (congrArg AV.bool hb3) rfl rfl ?_
            refine wo_not (tj := 29) (b := false) rfl (congrArg AV.bool hb3) rfl rfl ?_
            refine wo_not (tj := 29) (b := false) rfl (congrArg AV.bool hb3) rfl rfl ?_
            refine wo_not (tj := 29) (b := false) rfl (congrArg AV.bool hb3) rfl rfl ?_
            refine wo_valg (tj := 24) (.bool false) rfl (congrArg AV.bool hb1) rfl (pv_pick (t := false) (congrArg AV.bool hb3) rfl) ?_
            refine wo_back1 ?_
            refine wo_is [(3, (.ptr (ix ids 0) g 0 0)), (4, (.ptr (ix ids 1) g1 0 0)), (5, (.ptr (ix ids 2) g2 0 0)), (6, (.ptr (ix ids 3) g3 0 0)), (7, (.int .i64 a)), (8, (.int .i64 a1)), (16, (.sl 3 (List.map rStation s))), (17, (.int .i64 (s.length : Int))), (18, (.int .i64 (j : Int))), (24, (.bool seen)), (25, (.ptr (ix ids 7) g7 0 0)), (26, (.sl 1 (List.map (rI .i64) a2.Volumes))), (27, (.int .i64 volume)), (28, (.bool r1)), (29, (.bool r1)), (34, (.bool false))] (.cons rfl (.cons rfl (.cons rfl (.cons rfl (.cons rfl (.cons rfl (.cons rfl (.cons rfl (.cons rfl (.cons rfl (.cons rfl (.cons rfl (.cons rfl (.cons rfl (.cons rfl (.cons rfl .nil)))))))))))))))) ?_
            exact hJ1 false _ _ ⟨rfl, rfl⟩
      · rintro seen fr h ⟨rfl, rfl⟩
        refine wr_seq ?_
        refine wr_region ?_
        refine wo_val (.bool (decide ((s.length : Int) < (s.length : Int)))) rfl (pv_bin rfl rfl rfl) ?_
        refine wo_nil ?_
        refine wr_seq ?_
        refine wr_condF rfl (Int.lt_irrefl _) ?_
        refine wr_exit rfl ?_
        refine wr_block ?_
        refine wr_seq ?_
        refine wr_region ?_
        refine wo_val (.bool seen) rfl pv_move ?_
        refine wo_val (.bool seen) rfl pv_assign ?_
        refine wo_nil ?_
        refine wf_iteb rfl (fun hc => ?_) (fun hc => ?_)
        · refine wr_skip ?_
          refine wr_inBlock ?_
          refine wr_inBlock ?_
          exact wr_endBH (s := l1) (jL := 6) hI rfl rfl rfl ⟨v1, g6, vH1, rfl⟩
        · refine wr_seq ?_
          refine wr_region ?_
          refine wo_val v1 rfl (pv_load (ld_ptr hI rfl rfl rfl ti46 rfl)) ?_
          refine wo_val (.int .i64 (l1.length : Int)) rfl (pv_len (OwnV.len vH1 ti46)) ?_
          refine wo_val (.bool (decide ((l1.length : Int) > 0))) rfl (pv_bin rfl rfl rfl) ?_
          refine wo_val (.bool (decide ((l1.length : Int) > 0))) rfl pv_move ?_
          refine wo_join 10 ((fun (b2 : Bool) => if b2 then
((idx l1 (IntKind.wrap .i64 ((l1.length : Int) - 1))).bind fun a4 =>
  .ok (l1.set (IntKind.wrap .i64 ((l1.length : Int) - 1)).toNat { a4 with To := a1 }))
else
(if (l1.length + [({ From := a, To := a1 } : Span)].length) * 16 ≤ LIM then
  .ok (l1 ++ [({ From := a, To := a1 } : Span)]) else .bad)) : Bool → R (List Span)) (fun (b2 : Bool) (fr : Nat → AV) (h : AHeap) => fr = frA [(3, (.ptr (ix ids 0) g 0 0)), (4, (.ptr (ix ids 1) g1 0 0)), (5, (.ptr (ix ids 2) g2 0 0)), (6, (.ptr (ix ids 3) g3 0 0)), (7, (.int .i64 a)), (8, (.int .i64 a1)), (59, (.bool b2))] ∧ h = hp h0 ids [(some (.rows g 1 [[(.int .i64 volume)]])), (some (.rows g1 1 [[(.sl 3 (List.map rStation s))]])), (some (.rows g2 1 [[(.sl 3 (List.map rStatus l))]])), (some (.rows g3 1 [[v1]])), none, none, (some (.blk gL (.loop { r_L with state := .busy }))), none, (ownO v1 g6 2 (List.map rSpan l1))]) ?_ fun hJ2 => of_if1 (fun hb5 => ?_) (fun hb5 => ?_)
          · rintro b2 fr h ⟨rfl, rfl⟩
            refine wo_val (.bool b2) rfl pv_assign ?_
            refine wo_nil ?_
            refine wf_iteb rfl (fun hc1 => ?_) (fun hc1 => ?_)
            · refine wr_region ?_
              refine wo_val v1 rfl (pv_load (ld_ptr hI rfl rfl rfl ti46 rfl)) ?_
              refine wo_val v1 rfl (pv_load (ld_ptr hI rfl rfl rfl ti46 rfl)) ?_
              refine wo_val (.int .i64 (l1.length : Int)) rfl (pv_len (OwnV.len vH1 ti46)) ?_
              refine wo_val (.int .i64 (IntKind.wrap .i64 ((l1.length : Int) - 1))) rfl (pv_bin rfl rfl rfl) ?_
              refine wo_val (.int .i64 a1) rfl pv_move ?_
              refine of_idx fun a4 hz1 hx2 => ?_
              refine wo_val (.ptr (ix ids 8) g6 (IntKind.wrap .i64 ((l1.length : Int) - 1)).toNat 0) rfl (pv_ixa (ixa_own hI rfl vH1 rfl ti46 ti52 rfl hz1 hx2)) ?_
              refine wo_val (.ptr (ix ids 8) g6 (IntKind.wrap .i64 ((l1.length : Int) - 1)).toNat 1) rfl (pv_fa (fa_ptr (c := 0) (off := 1) (i := 1) ti52 rfl ti3 rfl)) ?_
              refine wo_store (st_own (y := { a4 with To := a1 }) hI rfl rfl vH1 rfl hx2 ti3 rfl rfl rfl rfl rfl rfl) ?_
              have vH2 := OwnV.set (i := (IntKind.wrap .i64 ((l1.length : Int) - 1)).toNat) (y := { a4 with To := a1 }) vH1
              have hx3 := List.getElem?_set_self (a := { a4 with To := a1 }) (lt_of_get hx2)
              refine wo_nil ?_
              refine wr_hp [(some (.rows g 1 [[(.int .i64 volume)]])), (some (.rows g1 1 [[(.sl 3 (List.map rStation s))]])), (some (.rows g2 1 [[(.sl 3 (List.map rStatus l))]])), (some (.rows g3 1 [[v1]])), none, none, (some (.blk gL (.loop { r_L with state := .busy }))), none, (ownO v1 g6 2 (List.map rSpan (l1.set (IntKind.wrap .i64 ((l1.length : Int) - 1)).toNat { a4 with To := a1 })))] rfl ?_
              refine wr_inBlock ?_
              refine wr_inBlock ?_
              exact wr_endBH (s := (l1.set (IntKind.wrap .i64 ((l1.length : Int) - 1)).toNat { a4 with To := a1 })) (jL := 6) hI rfl rfl rfl ⟨v1, g6, vH2, rfl⟩
            · refine wr_region ?_
              refine wo_val v1 rfl (pv_load (ld_ptr hI rfl rfl rfl ti46 rfl)) ?_
              refine wo_val (.int .i64 a) rfl pv_move ?_
              refine wo_val (.int .i64 a1) rfl pv_move ?_
              refine wo_val (.agg [(.int .i64 a), (.int .i64 a1)]) rfl (pv_build (bd_st ti52 pl52 rfl)) ?_
              refine wo_bsC (e := rSpan) (L := [({ From := a, To := a1 } : Span)]) (st := 2) (rows := [[(.int .i64 a), (.int .i64 a1)]]) rfl ti46 ti52 rfl rfl rfl rfl rfl (.cons (.cons (.same _) (.cons (.same _) .nil)) .nil) (fun x => ok_Span x) rfl rfl ?_
              refine of_need fun hl => ?_
              refine wo_append (e := rSpan) (L := l1) (L2 := [({ From := a, To := a1 } : Span)]) (v := v1) (g := g6) (st := 2) (j := 8) hI rfl rfl rfl rfl vH1 rfl (src_sl rfl) ti46 ti46 rfl ti52 rfl rfl rfl hl fun v2 g8 vH3 => ?_
              refine wo_store (st_ptrO vH3 hI rfl rfl rfl rfl ti46 rfl rfl rfl) ?_
              refine wo_nil ?_
              refine wr_hp [(some (.rows g 1 [[(.int .i64 volume)]])), (some (.rows g1 1 [[(.sl 3 (List.map rStation s))]])), (some (.rows g2 1 [[(.sl 3 (List.map rStatus l))]])), (some (.rows g3 1 [[v2]])), none, none, (some (.blk gL (.loop { r_L with state := .busy }))), none, (ownO v2 g8 2 (List.map rSpan (l1 ++ [({ From := a, To := a1 } : Span)])))] rfl ?_
              refine wr_inBlock ?_
              refine wr_inBlock ?_
              exact wr_endBH (s := (l1 ++ [({ From := a, To := a1 } : Span)])) (jL := 6) hI rfl rfl rfl ⟨v2, g8, vH3, rfl⟩
          · refine wo_valg (tj := 49) v1 rfl (congrArg AV.bool hb5) rfl (pv_load (ld_ptr hI rfl rfl rfl ti46 rfl)) ?_
            refine wo_valg (tj := 49) v1 rfl (congrArg AV.bool hb5) rfl (pv_load (ld_ptr hI rfl rfl rfl ti46 rfl)) ?_
            refine wo_valg (tj := 49) (.int .i64 (l1.length : Int)) rfl (congrArg AV.bool hb5) rfl (pv_len (OwnV.len vH1 ti46)) ?_
            refine wo_valg (tj := 49) (.int .i64 (IntKind.wrap .i64 ((l1.length : Int) - 1))) rfl (congrArg AV.bool hb5) rfl (pv_bin rfl rfl rfl) ?_
            refine of_idx fun a3 hz hx1 => ?_
            refine wo_valg (tj := 49) (.ptr (ix ids 8) g6 (IntKind.wrap .i64 ((l1.length : Int) - 1)).toNat 0) rfl (congrArg AV.bool hb5) rfl (pv_ixa (ixa_own hI rfl vH1 rfl ti46 ti52 rfl hz hx1)) ?_
            refine wo_valg (tj := 49) (.ptr (ix ids 8) g6 (IntKind.wrap .i64 ((l1.length : Int) - 1)).toNat 1) rfl (congrArg AV.bool hb5) rfl (pv_fa (fa_ptr (c := 0) (off := 1) (i := 1) ti52 rfl ti3 rfl)) ?_
            refine wo_valg (tj := 49) (.int .i64 a3.To) rfl (congrArg AV.bool hb5) rfl (pv_load (ld_own hI rfl vH1 rfl hx1 ti3 rfl)) ?_
            refine wo_valg (tj := 49) (.int .i64 a) rfl (congrArg AV.bool hb5) rfl pv_move ?_
            refine wo_valg (tj := 49) (.bool (a3.To == a)) rfl (congrArg AV.bool hb5) rfl (pv_bin rfl rfl rfl) ?_
            refine wo_val (.bool (a3.To == a)) rfl (pv_pick (t := true) (congrArg AV.bool hb5) rfl) ?_
            refine wo_back1 ?_
            refine wo_is [(3, (.ptr (ix ids 0) g 0 0)), (4, (.ptr (ix ids 1) g1 0 0)), (5, (.ptr (ix ids 2) g2 0 0)), (6, (.ptr (ix ids 3) g3 0 0)), (7, (.int .i64 a)), (8, (.int .i64 a1)), (59, (.bool (a3.To == a)))] (.cons rfl (.cons rfl (.cons rfl (.cons rfl (.cons rfl (.cons rfl (.cons rfl .nil))))))) ?_
            exact hJ2 (a3.To == a) _ _ ⟨rfl, rfl⟩
          · refine wo_not (tj := 49) (b := false) rfl (congrArg AV.bool hb5) rfl rfl ?_
            refine wo_not (tj := 49) (b := false) rfl (congrArg AV.bool hb5) rfl rfl ?_
            refine wo_not (tj := 49) (b := false) rfl (congrArg AV.bool hb5) rfl rfl ?_
            refine wo_not (tj := 49) (b := false) rfl (congrArg AV.bool hb5) rfl rfl ?_
            refine wo_not (tj := 49) (b := false) rfl (congrArg AV.bool hb5) rfl rfl ?_
            refine wo_not (tj := 49) (b := false) rfl (congrArg AV.bool hb5) rfl rfl ?_
            refine wo_not (tj := 49) (b := false) rfl (congrArg AV.bool hb5) rfl rfl ?_
            refine wo_not (tj := 49) (b := false) rfl (congrArg AV.bool hb5) rfl rfl ?_
            refine wo_not (tj := 49) (b := false) rfl (congrArg AV.bool hb5) rfl rfl ?_
            refine wo_val (.bool false) rfl (pv_pick (t := false) (congrArg AV.bool hb5) rfl) ?_
            refine wo_back1 ?_
            refine wo_is [(3, (.ptr (ix ids 0) g 0 0)), (4, (.ptr (ix ids 1) g1 0 0)), (5, (.ptr (ix ids 2) g2 0 0)), (6, (.ptr (ix ids 3) g3 0 0)), (7, (.int .i64 a)), (8, (.int .i64 a1)), (59, (.bool false))] (.cons rfl (.cons rfl (.cons rfl (.cons rfl (.cons rfl (.cons rfl (.cons rfl .nil))))))) ?_
            exact hJ2 false _ _ ⟨rfl, rfl⟩
    · exact ⟨.emp, 0, .nil, rfl⟩
  · rintro l1 _ ⟨v1, g6, vH1, rfl⟩
    exact hI.at rfl rfl
  · rintro l1 _ _ ⟨v1, g6, vH1, rfl⟩
    refine wr_upd [(some (.rows g 1 [[(.int .i64 volume)]])), (some (.rows g1 1 [[(.sl 3 (List.map rStation s))]])), (some (.rows g2 1 [[(.sl 3 (List.map rStatus l))]])), (some (.rows g3 1 [[v1]])), none, none, none, none, (ownO v1 g6 2 (List.map rSpan l1))] hI rfl rfl rfl ?_
    refine wr_inBlock ?_
    refine wr_seq ?_
    refine wr_region ?_
    refine wo_val v1 rfl (pv_load (ld_ptr hI rfl rfl rfl ti46 rfl)) ?_
    refine wo_store (st_ptrO vH1 hI rfl rfl rfl rfl ti46 rfl rfl rfl) ?_
    refine wo_nil ?_
    exact wr_retU (wu_star (wu_ret (a := l1) (vs := [v1]) Try.func19 hI (ares_cell (ld_ptr hI rfl rfl rfl ti46 rfl) ares_nil) (own_fz vH1 (hI.at rfl rfl) (hI.out rfl) (fun x => ok_Span x))))
  · rintro v3 _ l1 _ ⟨v1, g6, vH1, rfl⟩
    refine wu_upd [(some (.rows g 1 [[(.int .i64 volume)]])), (some (.rows g1 1 [[(.sl 3 (List.map rStation s))]])), (some (.rows g2 1 [[(.sl 3 (List.map rStatus l))]])), (some (.rows g3 1 [[v1]])), none, none, none, none, (ownO v1 g6 2 (List.map rSpan l1))] hI rfl rfl rfl ?_
    exact wu_star (wu_pan Try.func19 hI)

theorem cp_ref26_SameSeen (a : (List Bool)) (b : (List Bool)) : CP Try.prog 20 [(.sl 1 (List.map rB a)), (.sl 1 (List.map rB b))] (ref26_SameSeen a b) (fun (x : Bool) => (AV.bool x)) := by
  refine cp_intro (n := 26) 0 Try.func20 rfl (by decide) rfl rfl fun h0 ids hI => ?_
  refine wr_in (wr_mod (ref26_SameSeen.eq_1 _ _) ?_)
  refine wr_seq ?_
  refine wr_region ?_
  refine wo_val (.bool false) rfl pv_assign ?_
  refine wo_nil ?_
  refine wr_seq ?_
  refine wr_seq ?_
  refine wr_region ?_
  refine wo_val (.sl 1 (List.map rB a)) rfl pv_move ?_
  refine wo_val (.int .i64 (a.length : Int)) rfl (pv_len (len_sl ti39)) ?_
  refine wo_val (.sl 1 (List.map rB b)) rfl pv_move ?_
  refine wo_val (.int .i64 (b.length : Int)) rfl (pv_len (len_sl ti39)) ?_
  refine wo_val (.bool ((a.length : Int) != (b.length : Int))) rfl (pv_bin rfl rfl rfl) ?_
  refine wo_nil ?_
  refine wf_iteb rfl (fun hc => ?_) (fun hc => ?_)
  · refine wr_seq ?_
    refine wr_region ?_
    refine wo_val (.bool false) rfl pv_assign ?_
    refine wo_nil ?_
    exact wr_ret (a := false) (vs := [(.bool false)]) Try.func20 hI rfl (.same _)
  · refine wr_skip ?_
    refine wr_seq ?_
    refine wr_seq ?_
    refine wr_region ?_
    refine wo_val (.int .i64 0) rfl pv_assign ?_
    refine wo_nil ?_
    refine wr_block ?_
    refine wr_is [(0, (.sl 1 (List.map rB a))), (1, (.sl 1 (List.map rB b))), (5, (.int .i64 0))] (.cons rfl (.cons rfl (.cons rfl .nil))) ?_
    refine wf_each' (P := Try.prog) a (fun j a1 => fun _ => ref26_SameSeen_b1 b j a1) ((alt (fun _ => .ok true) (fun r => .ok r)) : (Unit ⊕ Bool) → R Bool)
      (fun j => fun _ => fun (fr : Nat → AV) (h : AHeap) => fr = frA [(0, (.sl 1 (List.map rB a))), (1, (.sl 1 (List.map rB b))), (5, (.int .i64 (j : Int)))] ∧ h = hp h0 ids []) () ?_ ?_ ?_
    · exact ⟨rfl, rfl⟩
    · rintro j a1 ha1 W hW _ fr h ⟨rfl, rfl⟩
      refine wr_mod (m' := ref26_SameSeen_b1 b j a1) rfl (wr_mod (ref26_SameSeen_b1.eq_1 _ _ _) ?_)
      refine wr_seq ?_
      refine wr_seq ?_
      refine wr_region ?_
      refine wo_val (.int .i64 (j : Int)) rfl pv_move ?_
      refine wo_val (.sl 1 (List.map rB a)) rfl pv_move ?_
      refine wo_val (.int .i64 (a.length : Int)) rfl (pv_len (len_sl ti39)) ?_
      refine wo_val (.bool (decide ((j : Int) < (a.length : Int)))) rfl (pv_bin rfl rfl rfl) ?_
      refine wo_nil ?_
      refine wr_lim (t := 0) (L := a) rfl fun hlim => ?_
      refine wr_condT rfl (Int.ofNat_lt.2 (lt_of_get ha1)) ?_
      refine wr_skip ?_
      refine wr_seq ?_
      refine wr_block ?_
      refine wr_seq ?_
      refine wr_draw hmix [[], [], [0, 1], [0, 1, 2], [], [], [4, 5], [4, 5, 6], [0, 1, 2, 3, 4, 5, 6, 7]] [(false, 0), (false, 1), (false, 2), (false, 3), (false, 4), (false, 5), (false, 6), (false, 7), (false, 8)] (by kernel_rfl) ?_
      refine wp_val (.sl 1 (List.map rB a)) rfl rfl pv_move ?_
      refine wp_val (.int .i64 (j : Int)) rfl rfl pv_move ?_
      refine wp_val (.cp [(.bool a1)] 0) rfl rfl (pv_ixa (ixa_nat ti39 ti4 rfl ha1)) ?_
      refine wp_val (.bool a1) rfl rfl (pv_load (ld_cp ti4 rfl)) ?_
      refine wp_val (.sl 1 (List.map rB b)) rfl rfl pv_move ?_
      refine wp_val (.int .i64 (j : Int)) rfl rfl pv_move ?_
      refine op_idx fun a2 hz hx1 => ?_
      refine wp_val (.cp [(.bool a2)] 0) rfl rfl (pv_ixa (ixa_sl ti39 ti4 rfl hz hx1)) ?_
      refine wp_val (.bool a2) rfl rfl (pv_load (ld_cp ti4 rfl)) ?_
      refine wp_val (.bool (!(a1 == a2))) rfl rfl (pv_bin rfl rfl (bin_bne ti4)) ?_
      refine wp_nil ?_
      refine wf_itebn rfl (fun hc1 => ?_) (fun hc1 => ?_)
      · refine wr_skip ?_
        refine wr_inBlock ?_
        refine wr_region ?_
        refine wo_val (.int .i64 (j : Int)) rfl pv_move ?_
        refine wo_val (.int .i64 (IntKind.wrap .i64 ((j : Int) + 1))) rfl (pv_bin rfl rfl rfl) ?_
        refine wo_val (.int .i64 (IntKind.wrap .i64 ((j : Int) + 1))) rfl pv_assign ?_
        refine wo_nil ?_
        refine wr_is [(0, (.sl 1 (List.map rB a))), (1, (.sl 1 (List.map rB b))), (5, (.int .i64 ((j + 1 : Nat) : Int)))] (.cons rfl (.cons rfl (.cons (inc_ok (lt_of_get ha1) hlim) .nil))) ?_
        refine wb_each ?_
        refine hW () _ _ ?_
        exact ⟨rfl, rfl⟩
      · refine wr_seq ?_
        refine wr_region ?_
        refine wo_val (.bool false) rfl pv_assign ?_
        refine wo_nil ?_
        refine wx_each ?_
        refine w_altr ?_
        exact wr_ret (a := false) (vs := [(.bool false)]) Try.func20 hI rfl (.same _)
    · rintro _ fr h ⟨rfl, rfl⟩
      refine wr_mod (alt_inl _ _ _) ?_
      refine wr_seq ?_
      refine wr_seq ?_
      refine wr_region ?_
      refine wo_val (.int .i64 (a.length : Int)) rfl pv_move ?_
      refine wo_val (.sl 1 (List.map rB a)) rfl pv_move ?_
      refine wo_val (.int .i64 (a.length : Int)) rfl (pv_len (len_sl ti39)) ?_
      refine wo_val (.bool (decide ((a.length : Int) < (a.length : Int)))) rfl (pv_bin rfl rfl rfl) ?_
      refine wo_nil ?_
      refine wr_condF rfl (Int.lt_irrefl _) ?_
      refine wr_exit rfl ?_
      refine wr_seq ?_
      refine wr_region ?_
      refine wo_val (.bool true) rfl pv_assign ?_
      refine wo_nil ?_
      exact wr_ret (a := true) (vs := [(.bool true)]) Try.func20 hI rfl (.same _)

theorem cp_ref05_Same (a : (List Span)) (b : (List Span)) : CP Try.prog 21 [(.sl 2 (List.map rSpan a)), (.sl 2 (List.map rSpan b))] (ref05_Same a b) (fun (x : Bool) => (AV.bool x)) := by
  refine cp_intro (n := 26) 0 Try.func21 rfl (by decide) rfl rfl fun h0 ids hI => ?_
  refine wr_in (wr_mod (ref05_Same.eq_1 _ _) ?_)
  refine wr_seq ?_
  refine wr_region ?_
  refine wo_val (.bool false) rfl pv_assign ?_
  refine wo_nil ?_
  refine wr_seq ?_
  refine wr_seq ?_
  refine wr_region ?_
  refine wo_val (.sl 2 (List.map rSpan a)) rfl pv_move ?_
  refine wo_val (.int .i64 (a.length : Int)) rfl (pv_len (len_sl ti46)) ?_
  refine wo_val (.sl 2 (List.map rSpan b)) rfl pv_move ?_
  refine wo_val (.int .i64 (b.length : Int)) rfl (pv_len (len_sl ti46)) ?_
  refine wo_val (.bool ((a.length : Int) != (b.length : Int))) rfl (pv_bin rfl rfl rfl) ?_
  refine wo_nil ?_
  refine wf_iteb rfl (fun hc => ?_) (fun hc => ?_)
  · refine wr_seq ?_
    refine wr_region ?_
    refine wo_val (.bool false) rfl pv_assign ?_
    refine wo_nil ?_
    exact wr_ret (a := false) (vs := [(.bool false)]) Try.func21 hI rfl (.same _)
  · refine wr_skip ?_
    refine wr_seq ?_
    refine wr_seq ?_
    refine wr_region ?_
    refine wo_val (.int .i64 0) rfl pv_assign ?_
    refine wo_nil ?_
    refine wr_block ?_
    refine wr_is [(0, (.sl 2 (List.map rSpan a))), (1, (.sl 2 (List.map rSpan b))), (5, (.int .i64 0))] (.cons rfl (.cons rfl (.cons rfl .nil))) ?_
    refine wf_each' (P := Try.prog) a (fun j a1 => fun _ => ref05_Same_b1 b j a1) ((alt (fun _ => .ok true) (fun r => .ok r)) : (Unit ⊕ Bool) → R Bool)
      (fun j => fun _ => fun (fr : Nat → AV) (h : AHeap) => fr = frA [(0, (.sl 2 (List.map rSpan a))), (1, (.sl 2 (List.map rSpan b))), (5, (.int .i64 (j : Int)))] ∧ h = hp h0 ids []) () ?_ ?_ ?_
    · exact ⟨rfl, rfl⟩
    · rintro j a1 ha1 W hW _ fr h ⟨rfl, rfl⟩
      refine wr_mod (m' := ref05_Same_b1 b j a1) rfl (wr_mod (ref05_Same_b1.eq_1 _ _ _) ?_)
      refine wr_seq ?_
      refine wr_seq ?_
      refine wr_region ?_
      refine wo_val (.int .i64 (j : Int)) rfl pv_move ?_
      refine wo_val (.sl 2 (List.map rSpan a)) rfl pv_move ?_
      refine wo_val (.int .i64 (a.length : Int)) rfl (pv_len (len_sl ti46)) ?_
      refine wo_val (.bool (decide ((j : Int) < (a.length : Int)))) rfl (pv_bin rfl rfl rfl) ?_
      refine wo_nil ?_
      refine wr_lim (t := 0) (L := a) rfl fun hlim => ?_
      refine wr_condT rfl (Int.ofNat_lt.2 (lt_of_get ha1)) ?_
      refine wr_skip ?_
      refine wr_seq ?_
      refine wr_block ?_
      refine wr_seq ?_
      refine wr_draw hmix [[], [], [0, 1], [0, 1, 2], [], [], [4, 5], [4, 5, 6], [0, 1, 2, 3, 4, 5, 6, 7]] [(false, 0), (false, 1), (false, 2), (false, 3), (false, 4), (false, 5), (false, 6), (false, 7), (false, 8)] (by kernel_rfl) ?_
      refine wp_val (.sl 2 (List.map rSpan a)) rfl rfl pv_move ?_
      refine wp_val (.int .i64 (j : Int)) rfl rfl pv_move ?_
      refine wp_val (.cp (rSpan a1) 0) rfl rfl (pv_ixa (ixa_nat ti46 ti52 rfl ha1)) ?_
      refine wp_val (.agg (rSpan a1)) rfl rfl (pv_load (ld_cp ti52 rfl)) ?_
      refine wp_val (.sl 2 (List.map rSpan b)) rfl rfl pv_move ?_
      refine wp_val (.int .i64 (j : Int)) rfl rfl pv_move ?_
      refine op_idx fun a2 hz hx1 => ?_
      refine wp_val (.cp (rSpan a2) 0) rfl rfl (pv_ixa (ixa_sl ti46 ti52 rfl hz hx1)) ?_
      refine wp_val (.agg (rSpan a2)) rfl rfl (pv_load (ld_cp ti52 rfl)) ?_
      refine wp_val (.bool (!((a1.From == a2.From) && (a1.To == a2.To)))) rfl rfl (pv_bin (eqok52 rfl rfl) rfl neqs52) ?_
      refine wp_nil ?_
      refine wf_itebn rfl (fun hc1 => ?_) (fun hc1 => ?_)
      · refine wr_skip ?_
        refine wr_inBlock ?_
        refine wr_region ?_
        refine wo_val (.int .i64 (j : Int)) rfl pv_move ?_
        refine wo_val (.int .i64 (IntKind.wrap .i64 ((j : Int) + 1))) rfl (pv_bin rfl rfl rfl) ?_
        refine wo_val (.int .i64 (IntKind.wrap .i64 ((j : Int) + 1))) rfl pv_assign ?_
        refine wo_nil ?_
        refine wr_is [(0, (.sl 2 (List.map rSpan a))), (1, (.sl 2 (List.map rSpan b))), (5, (.int .i64 ((j + 1 : Nat) : Int)))] (.cons rfl (.cons rfl (.cons (inc_ok (lt_of_get ha1) hlim) .nil))) ?_
        refine wb_each ?_
        refine hW () _ _ ?_
        exact ⟨rfl, rfl⟩
      · refine wr_seq ?_
        refine wr_region ?_
        refine wo_val (.bool false) rfl pv_assign ?_
        refine wo_nil ?_
        refine wx_each ?_
        refine w_altr ?_
        exact wr_ret (a := false) (vs := [(.bool false)]) Try.func21 hI rfl (.same _)
    · rintro _ fr h ⟨rfl, rfl⟩
      refine wr_mod (alt_inl _ _ _) ?_
      refine wr_seq ?_
      refine wr_seq ?_
      refine wr_region ?_
      refine wo_val (.int .i64 (a.length : Int)) rfl pv_move ?_
      refine wo_val (.sl 2 (List.map rSpan a)) rfl pv_move ?_
      refine wo_val (.int .i64 (a.length : Int)) rfl (pv_len (len_sl ti46)) ?_
      refine wo_val (.bool (decide ((a.length : Int) < (a.length : Int)))) rfl (pv_bin rfl rfl rfl) ?_
      refine wo_nil ?_
      refine wr_condF rfl (Int.lt_irrefl _) ?_
      refine wr_exit rfl ?_
      refine wr_seq ?_
      refine wr_region ?_
      refine wo_val (.bool true) rfl pv_assign ?_
      refine wo_nil ?_
      exact wr_ret (a := true) (vs := [(.bool true)]) Try.func21 hI rfl (.same _)

theorem cp_law26_sane : CP Try.prog 9 [] (law26_sane) (fun (x : Bool) => (AV.bool x)) := by
  refine cp_intro (n := 144) 0 Try.func9 rfl (by decide) rfl rfl fun h0 ids hI => ?_
  refine wr_in (wr_mod (law26_sane.eq_1) ?_)
  refine wr_seq ?_
  refine wr_region ?_
  refine wo_val (.bool false) rfl pv_assign ?_
  refine wo_nil ?_
  refine wr_seq ?_
  refine wr_region ?_
  refine wo_bsC (e := (rI .i64)) (L := [0]) (st := 1) (rows := [[(.int .i64 0)]]) rfl ti36 ti3 rfl rfl rfl rfl rfl (.cons (RowSim.refl _) .nil) (fun x => ok_I x) rfl rfl ?_
  refine wo_val (.agg [(.sl 1 (List.map (rI .i64) [0])), (.int .i64 0), (.int .i64 0)]) rfl (pv_build (bd_st ti38 pl38 rfl)) ?_
  refine wo_bsC (e := rStation) (L := [({ Volumes := [0], Shift := 0, Faults := 0 } : Station)]) (st := 3) (rows := [[(.sl 1 (List.map (rI .i64) [0])), (.int .i64 0), (.int .i64 0)]]) rfl ti35 ti38 rfl rfl rfl rfl rfl (.cons (.cons (.same _) (.cons (.same _) (.cons (.same _) .nil))) .nil) (fun x => ok_Station x) rfl rfl ?_
  refine wo_val (.sl 3 (List.map rStation [({ Volumes := [0], Shift := 0, Faults := 0 } : Station)])) rfl pv_assign ?_
  refine wo_nil ?_
  refine wr_seq ?_
  refine wr_region ?_
  refine wo_val (.agg [(.int .i64 0), (.int .i64 60), (.bool false)]) rfl (pv_build (bd_st ti24 pl24 rfl)) ?_
  refine of_call [(.int .i64 1), .emp, (.agg [(.int .i64 0), (.int .i64 60), (.bool false)])] rfl rfl rfl rfl (fun hb => ACalls.weak (.cons (.same _) (.cons (.emp _) (.cons (.aggL (.cons (.same _) (.cons (.same _) (.cons (.same _) .nil)))) .nil))) ((cp_radar_Add 1 [] ({ Station := 0, From := 60, Works := false } : Status)) _ hb)) (fun v _ => wu_pan Try.func9 hI) fun r _ => ?_
  refine wo_val (.tup [(.sl 3 (List.map rStatus r.1)), (.int .i64 r.2)]) rfl pv_move ?_
  refine wo_val (.sl 3 (List.map rStatus r.1)) rfl (pv_ext rfl) ?_
  refine wo_val (.int .i64 r.2) rfl (pv_ext rfl) ?_
  refine wo_val (.sl 3 (List.map rStatus r.1)) rfl pv_assign ?_
  refine wo_val (.int .i64 r.2) rfl pv_assign ?_
  refine wo_nil ?_
  refine wr_seq ?_
  refine wr_region ?_
  refine wo_val (.sl 3 (List.map rStatus r.1)) rfl pv_move ?_
  refine wo_val (.agg [(.int .i64 0), (.int .i64 100), (.bool true)]) rfl (pv_build (bd_st ti24 pl24 rfl)) ?_
  refine of_call [(.int .i64 1), (.sl 3 (List.map rStatus r.1)), (.agg [(.int .i64 0), (.int .i64 100), (.bool true)])] rfl rfl rfl rfl (fun hb => ACalls.weak (.cons (.same _) (.cons (.same _) (.cons (.aggL (.cons (.same _) (.cons (.same _) (.cons (.same _) .nil)))) .nil))) ((cp_radar_Add 1 r.1 ({ Station := 0, From := 100, Works := true } : Status)) _ hb)) (fun v _ => wu_pan Try.func9 hI) fun r1 _ => ?_
  refine wo_val (.tup [(.sl 3 (List.map rStatus r1.1)), (.int .i64 r1.2)]) rfl pv_move ?_
  refine wo_val (.sl 3 (List.map rStatus r1.1)) rfl (pv_ext rfl) ?_
  refine wo_val (.int .i64 r1.2) rfl (pv_ext rfl) ?_
  refine wo_val (.sl 3 (List.map rStatus r1.1)) rfl pv_assign ?_
  refine wo_val (.int .i64 r1.2) rfl pv_assign ?_
  refine wo_nil ?_
  refine wr_seq ?_
  refine wr_region ?_
  refine wo_val (.sl 3 (List.map rStatus r1.1)) rfl pv_move ?_
  refine wo_val (.agg [(.int .i64 0), (.int .i64 60), (.bool true)]) rfl (pv_build (bd_st ti24 pl24 rfl)) ?_
  refine of_call [(.int .i64 1), (.sl 3 (List.map rStatus r1.1)), (.agg [(.int .i64 0), (.int .i64 60), (.bool true)])] rfl rfl rfl rfl (fun hb => ACalls.weak (.cons (.same _) (.cons (.same _) (.cons (.aggL (.cons (.same _) (.cons (.same _) (.cons (.same _) .nil)))) .nil))) ((cp_radar_Add 1 r1.1 ({ Station := 0, From := 60, Works := true } : Status)) _ hb)) (fun v _ => wu_pan Try.func9 hI) fun r2 _ => ?_
  refine wo_val (.tup [(.sl 3 (List.map rStatus r2.1)), (.int .i64 r2.2)]) rfl pv_move ?_
  refine wo_val (.sl 3 (List.map rStatus r2.1)) rfl (pv_ext rfl) ?_
  refine wo_val (.int .i64 r2.2) rfl (pv_ext rfl) ?_
  refine wo_val (.sl 3 (List.map rStatus r2.1)) rfl pv_assign ?_
  refine wo_val (.int .i64 r2.2) rfl pv_assign ?_
  refine wo_nil ?_
  refine wr_seq ?_
  refine wr_region ?_
  refine wo_val (.sl 3 (List.map rStation [({ Volumes := [0], Shift := 0, Faults := 0 } : Station)])) rfl pv_move ?_
  refine wo_val (.sl 3 (List.map rStatus r1.1)) rfl pv_move ?_
  refine of_call [(.int .i64 2), (.sl 3 (List.map rStation [({ Volumes := [0], Shift := 0, Faults := 0 } : Station)])), (.sl 3 (List.map rStatus r1.1)), (.int .i64 59)] rfl rfl rfl rfl ((cp_radar_Seen 2 [({ Volumes := [0], Shift := 0, Faults := 0 } : Station)] r1.1 59) _) (fun v _ => wu_pan Try.func9 hI) fun r3 _ => ?_
  refine wo_val (.tup [(.sl 1 (List.map rB r3.1)), (.int .i64 r3.2)]) rfl pv_move ?_
  refine wo_val (.sl 1 (List.map rB r3.1)) rfl (pv_ext rfl) ?_
  refine wo_val (.int .i64 r3.2) rfl (pv_ext rfl) ?_
  refine wo_val (.sl 1 (List.map rB r3.1)) rfl pv_assign ?_
  refine wo_val (.int .i64 r3.2) rfl pv_assign ?_
  refine wo_nil ?_
  refine wr_seq ?_
  refine wr_region ?_
  refine wo_val (.sl 3 (List.map rStation [({ Volumes := [0], Shift := 0, Faults := 0 } : Station)])) rfl pv_move ?_
  refine wo_val (.sl 3 (List.map rStatus r1.1)) rfl pv_move ?_
  refine of_call [(.int .i64 2), (.sl 3 (List.map rStation [({ Volumes := [0], Shift := 0, Faults := 0 } : Station)])), (.sl 3 (List.map rStatus r1.1)), (.int .i64 60)] rfl rfl rfl rfl ((cp_radar_Seen 2 [({ Volumes := [0], Shift := 0, Faults := 0 } : Station)] r1.1 60) _) (fun v _ => wu_pan Try.func9 hI) fun r4 _ => ?_
  refine wo_val (.tup [(.sl 1 (List.map rB r4.1)), (.int .i64 r4.2)]) rfl pv_move ?_
  refine wo_val (.sl 1 (List.map rB r4.1)) rfl (pv_ext rfl) ?_
  refine wo_val (.int .i64 r4.2) rfl (pv_ext rfl) ?_
  refine wo_val (.sl 1 (List.map rB r4.1)) rfl pv_assign ?_
  refine wo_val (.int .i64 r4.2) rfl pv_assign ?_
  refine wo_nil ?_
  refine wr_seq ?_
  refine wr_region ?_
  refine of_call [(.int .i64 1), .emp, .emp, (.int .i64 0)] rfl rfl rfl rfl (fun hb => ACalls.weak (.cons (.same _) (.cons (.emp _) (.cons (.emp _) (.cons (.same _) .nil)))) ((cp_radar_Seen 1 [] [] 0) _ hb)) (fun v _ => wu_pan Try.func9 hI) fun r5 _ => ?_
  refine wo_val (.tup [(.sl 1 (List.map rB r5.1)), (.int .i64 r5.2)]) rfl pv_move ?_
  refine wo_val (.sl 1 (List.map rB r5.1)) rfl (pv_ext rfl) ?_
  refine wo_val (.int .i64 r5.2) rfl (pv_ext rfl) ?_
  refine wo_val (.sl 1 (List.map rB r5.1)) rfl pv_assign ?_
  refine wo_val (.int .i64 r5.2) rfl pv_assign ?_
  refine wo_nil ?_
  refine wr_seq ?_
  refine wr_region ?_
  refine wo_val (.sl 3 (List.map rStation [({ Volumes := [0], Shift := 0, Faults := 0 } : Station)])) rfl pv_move ?_
  refine of_call [(.int .i64 1), (.sl 3 (List.map rStation [({ Volumes := [0], Shift := 0, Faults := 0 } : Station)])), .emp, (.int .i64 1440)] rfl rfl rfl rfl (fun hb => ACalls.weak (.cons (.same _) (.cons (.same _) (.cons (.emp _) (.cons (.same _) .nil)))) ((cp_radar_Seen 1 [({ Volumes := [0], Shift := 0, Faults := 0 } : Station)] [] 1440) _ hb)) (fun v _ => wu_pan Try.func9 hI) fun r6 _ => ?_
  refine wo_val (.tup [(.sl 1 (List.map rB r6.1)), (.int .i64 r6.2)]) rfl pv_move ?_
  refine wo_val (.sl 1 (List.map rB r6.1)) rfl (pv_ext rfl) ?_
  refine wo_val (.int .i64 r6.2) rfl (pv_ext rfl) ?_
  refine wo_val (.sl 1 (List.map rB r6.1)) rfl pv_assign ?_
  refine wo_val (.int .i64 r6.2) rfl pv_assign ?_
  refine wo_nil ?_
  refine wr_seq ?_
  refine wr_region ?_
  refine wo_val (.sl 3 (List.map rStation [({ Volumes := [0], Shift := 0, Faults := 0 } : Station)])) rfl pv_move ?_
  refine wo_val (.sl 3 (List.map rStatus r1.1)) rfl pv_move ?_
  refine of_call [(.int .i64 0), (.sl 3 (List.map rStation [({ Volumes := [0], Shift := 0, Faults := 0 } : Station)])), (.sl 3 (List.map rStatus r1.1))] rfl rfl rfl rfl ((cp_radar_Lost 0 [({ Volumes := [0], Shift := 0, Faults := 0 } : Station)] r1.1) _) (fun v _ => wu_pan Try.func9 hI) fun r7 _ => ?_
  refine wo_val (.sl 2 (List.map rSpan r7)) rfl pv_assign ?_
  refine wo_nil ?_
  refine wr_seq ?_
  refine wr_region ?_
  refine wo_val (.int .i64 r.2) rfl pv_move ?_
  refine wo_val (.bool (r.2 == 0)) rfl (pv_bin rfl rfl rfl) ?_
  refine wo_val (.bool (r.2 == 0)) rfl pv_move ?_
  refine wo_meet 3 [(2, (.sl 3 (List.map rStatus r1.1))), (5, (.sl 3 (List.map rStatus r2.1))), (6, (.int .i64 r2.2)), (7, (.sl 1 (List.map rB r3.1))), (8, (.int .i64 r3.2)), (9, (.sl 1 (List.map rB r4.1))), (10, (.int .i64 r4.2)), (11, (.sl 1 (List.map rB r5.1))), (12, (.int .i64 r5.2)), (14, (.int .i64 r6.2)), (15, (.sl 2 (List.map rSpan r7))), (66, (.bool ((r.2 == 0) && (r1.2 == 0))))] ?_ fun hJ => wo_cases (r.2 == 0) (fun hb1 => ?_) (fun hb1 => ?_)
  · refine wo_val (.bool ((r.2 == 0) && (r1.2 == 0))) rfl pv_move ?_
    refine wo_meet 4 [(2, (.sl 3 (List.map rStatus r1.1))), (5, (.sl 3 (List.map rStatus r2.1))), (6, (.int .i64 r2.2)), (7, (.sl 1 (List.map rB r3.1))), (8, (.int .i64 r3.2)), (9, (.sl 1 (List.map rB r4.1))), (10, (.int .i64 r4.2)), (11, (.sl 1 (List.map rB r5.1))), (12, (.int .i64 r5.2)), (14, (.int .i64 r6.2)), (15, (.sl 2 (List.map rSpan r7))), (71, (.bool (((r.2 == 0) && (r1.2 == 0)) && ((r1.1.length : Int) == 2))))] ?_ fun hJ1 => wo_cases ((r.2 == 0) && (r1.2 == 0)) (fun hb3 => ?_) (fun hb3 => ?_)
    · refine wo_val (.bool (((r.2 == 0) && (r1.2 == 0)) && ((r1.1.length : Int) == 2))) rfl pv_move ?_
      refine wo_meet 3 [(2, (.sl 3 (List.map rStatus r1.1))), (5, (.sl 3 (List.map rStatus r2.1))), (7, (.sl 1 (List.map rB r3.1))), (8, (.int .i64 r3.2)), (9, (.sl 1 (List.map rB r4.1))), (10, (.int .i64 r4.2)), (11, (.sl 1 (List.map rB r5.1))), (12, (.int .i64 r5.2)), (14, (.int .i64 r6.2)), (15, (.sl 2 (List.map rSpan r7))), (75, (.bool ((((r.2 == 0) && (r1.2 == 0)) && ((r1.1.length : Int) == 2)) && (r2.2 == 0))))] ?_ fun hJ2 => wo_cases (((r.2 == 0) && (r1.2 == 0)) && ((r1.1.length : Int) == 2)) (fun hb5 => ?_) (fun hb5 => ?_)
      · refine wo_val (.bool ((((r.2 == 0) && (r1.2 == 0)) && ((r1.1.length : Int) == 2)) && (r2.2 == 0))) rfl pv_move ?_
        refine wo_meet 4 [(2, (.sl 3 (List.map rStatus r1.1))), (5, (.sl 3 (List.map rStatus r2.1))), (7, (.sl 1 (List.map rB r3.1))), (8, (.int .i64 r3.2)), (9, (.sl 1 (List.map rB r4.1))), (10, (.int .i64 r4.2)), (11, (.sl 1 (List.map rB r5.1))), (12, (.int .i64 r5.2)), (14, (.int .i64 r6.2)), (15, (.sl 2 (List.map rSpan r7))), (80, (.bool (((((r.2 == 0) && (r1.2 == 0)) && ((r1.1.length : Int) == 2)) && (r2.2 == 0)) && ((r2.1.length : Int) == 2))))] ?_ fun hJ3 => wo_cases ((((r.2 == 0) && (r1.2 == 0)) && ((r1.1.length : Int) == 2)) && (r2.2 == 0)) (fun hb7 => ?_) (fun hb7 => ?_)
        · refine wo_val (.bool (((((r.2 == 0) && (r1.2 == 0)) && ((r1.1.length : Int) == 2)) && (r2.2 == 0)) && ((r2.1.length : Int) == 2))) rfl pv_move ?_
          refine wo_join 5 ((fun (b : Bool) => (if (b && (r3.2 == 0)) then (ref26_SameSeen r3.1 [true, false]).bind fun r8 =>
  R.ok r8 else R.ok false).bind (fun (b1 : Bool) => (if (b1 && (r4.2 == 0)) then (ref26_SameSeen r4.1 [false, false]).bind fun r9 =>
  R.ok r9 else R.ok false).bind (fun (b2 : Bool) => (if (b2 && (r5.2 == 0)) then (ref26_SameSeen r5.1 [false]).bind fun r10 =>
  R.ok r10 else R.ok false).bind (fun (b3 : Bool) => (if (b3 && (r6.2 == 260)) then (ref05_Same r7 [({ From := 60, To := 100 } : Span)]).bind fun r11 =>
  R.ok r11 else R.ok false).bind (fun (b4 : Bool) => (if b4 then (radar_Lost 0 [] []).bind fun r12 =>
  (ref05_Same r12 [({ From := 0, To := 1440 } : Span)]).bind fun r13 =>
  R.ok r13 else R.ok false).bind (fun (b5 : Bool) => (if b5 then (radar_Works [] 0 5).bind fun r14 =>
  R.ok r14 else R.ok false).bind (fun (b6 : Bool) => (if b6 then (radar_Check 0 r1.1).bind fun r15 =>
  R.ok (r15 == 260) else R.ok false).bind (fun (b7 : Bool) => (if b7 then (radar_Check 1 r1.1).bind fun r16 =>
  R.ok (r16 == 0) else R.ok false).bind (fun (b8 : Bool) => .ok b8))))))))) : Bool → R Bool) (fun (b : Bool) (fr : Nat → AV) (h : AHeap) => fr = frA [(2, (.sl 3 (List.map rStatus r1.1))), (7, (.sl 1 (List.map rB r3.1))), (8, (.int .i64 r3.2)), (9, (.sl 1 (List.map rB r4.1))), (10, (.int .i64 r4.2)), (11, (.sl 1 (List.map rB r5.1))), (12, (.int .i64 r5.2)), (14, (.int .i64 r6.2)), (15, (.sl 2 (List.map rSpan r7))), (86, (.bool b))] ∧ h = hp h0 ids []) ?_ fun hJ4 => of_if1 (fun hb9 => ?_) (fun hb9 => ?_)
          · rintro b fr h ⟨rfl, rfl⟩
            refine wo_val (.bool b) rfl pv_move ?_
            refine wo_meet 3 [(2, (.sl 3 (List.map rStatus r1.1))), (7, (.sl 1 (List.map rB r3.1))), (9, (.sl 1 (List.map rB r4.1))), (10, (.int .i64 r4.2)), (11, (.sl 1 (List.map rB r5.1))), (12, (.int .i64 r5.2)), (14, (.int .i64 r6.2)), (15, (.sl 2 (List.map rSpan r7))), (90, (.bool (b && (r3.2 == 0))))] ?_ fun hJ5 => wo_cases b (fun hb11 => ?_) (fun hb11 => ?_)
            · refine wo_val (.bool (b && (r3.2 == 0))) rfl pv_move ?_
              refine wo_join 4 ((fun (b1 : Bool) => (if (b1 && (r4.2 == 0)) then (ref26_SameSeen r4.1 [false, false]).bind fun r9 =>
  R.ok r9 else R.ok false).bind (fun (b2 : Bool) => (if (b2 && (r5.2 == 0)) then (ref26_SameSeen r5.1 [false]).bind fun r10 =>
  R.ok r10 else R.ok false).bind (fun (b3 : Bool) => (if (b3 && (r6.2 == 260)) then (ref05_Same r7 [({ From := 60, To := 100 } : Span)]).bind fun r11 =>
  R.ok r11 else R.ok false).bind (fun (b4 : Bool) => (if b4 then (radar_Lost 0 [] []).bind fun r12 =>
  (ref05_Same r12 [({ From := 0, To := 1440 } : Span)]).bind fun r13 =>
  R.ok r13 else R.ok false).bind (fun (b5 : Bool) => (if b5 then (radar_Works [] 0 5).bind fun r14 =>
  R.ok r14 else R.ok false).bind (fun (b6 : Bool) => (if b6 then (radar_Check 0 r1.1).bind fun r15 =>
  R.ok (r15 == 260) else R.ok false).bind (fun (b7 : Bool) => (if b7 then (radar_Check 1 r1.1).bind fun r16 =>
  R.ok (r16 == 0) else R.ok false).bind (fun (b8 : Bool) => .ok b8)))))))) : Bool → R Bool) (fun (b1 : Bool) (fr : Nat → AV) (h : AHeap) => fr = frA [(2, (.sl 3 (List.map rStatus r1.1))), (9, (.sl 1 (List.map rB r4.1))), (10, (.int .i64 r4.2)), (11, (.sl 1 (List.map rB r5.1))), (12, (.int .i64 r5.2)), (14, (.int .i64 r6.2)), (15, (.sl 2 (List.map rSpan r7))), (95, (.bool b1))] ∧ h = hp h0 ids []) ?_ fun hJ6 => of_if1 (fun hb13 => ?_) (fun hb13 => ?_)
              · rintro b1 fr h ⟨rfl, rfl⟩
                refine wo_val (.bool b1) rfl pv_move ?_
                refine wo_meet 3 [(2, (.sl 3 (List.map rStatus r1.1))), (9, (.sl 1 (List.map rB r4.1))), (11, (.sl 1 (List.map rB r5.1))), (12, (.int .i64 r5.2)), (14, (.int .i64 r6.2)), (15, (.sl 2 (List.map rSpan r7))), (99, (.bool (b1 && (r4.2 == 0))))] ?_ fun hJ7 => wo_cases b1 (fun hb15 => ?_) (fun hb15 => ?_)
                · refine wo_val (.bool (b1 && (r4.2 == 0))) rfl pv_move ?_
                  refine wo_join 4 ((fun (b2 : Bool) => (if (b2 && (r5.2 == 0)) then (ref26_SameSeen r5.1 [false]).bind fun r10 =>
  R.ok r10 else R.ok false).bind (fun (b3 : Bool) => (if (b3 && (r6.2 == 260)) then (ref05_Same r7 [({ From := 60, To := 100 } : Span)]).bind fun r11 =>
  R.ok r11 else R.ok false).bind (fun (b4 : Bool) => (if b4 then (radar_Lost 0 [] []).bind fun r12 =>
  (ref05_Same r12 [({ From := 0, To := 1440 } : Span)]).bind fun r13 =>
  R.ok r13 else R.ok false).bind (fun (b5 : Bool) => (if b5 then (radar_Works [] 0 5).bind fun r14 =>
  R.ok r14 else R.ok false).bind (fun (b6 : Bool) => (if b6 then (radar_Check 0 r1.1).bind fun r15 =>
  R.ok (r15 == 260) else R.ok false).bind (fun (b7 : Bool) => (if b7 then (radar_Check 1 r1.1).bind fun r16 =>
  R.ok (r16 == 0) else R.ok false).bind (fun (b8 : Bool) => .ok b8))))))) : Bool → R Bool) (fun (b2 : Bool) (fr : Nat → AV) (h : AHeap) => fr = frA [(2, (.sl 3 (List.map rStatus r1.1))), (11, (.sl 1 (List.map rB r5.1))), (12, (.int .i64 r5.2)), (14, (.int .i64 r6.2)), (15, (.sl 2 (List.map rSpan r7))), (104, (.bool b2))] ∧ h = hp h0 ids []) ?_ fun hJ8 => of_if1 (fun hb17 => ?_) (fun hb17 => ?_)
                  · rintro b2 fr h ⟨rfl, rfl⟩
                    refine wo_val (.bool b2) rfl pv_move ?_
                    refine wo_meet 3 [(2, (.sl 3 (List.map rStatus r1.1))), (11, (.sl 1 (List.map rB r5.1))), (14, (.int .i64 r6.2)), (15, (.sl 2 (List.map rSpan r7))), (108, (.bool (b2 && (r5.2 == 0))))] ?_ fun hJ9 => wo_cases b2 (fun hb19 => ?_) (fun hb19 => ?_)
                    · refine wo_val (.bool (b2 && (r5.2 == 0))) rfl pv_move ?_
                      refine wo_join 4 ((fun (b3 : Bool) => (if (b3 && (r6.2 == 260)) then (ref05_Same r7 [({ From := 60, To := 100 } : Span)]).bind fun r11 =>
  R.ok r11 else R.ok false).bind (fun (b4 : Bool) => (if b4 then (radar_Lost 0 [] []).bind fun r12 =>
  (ref05_Same r12 [({ From := 0, To := 1440 } : Span)]).bind fun r13 =>
  R.ok r13 else R.ok false).bind (fun (b5 : Bool) => (if b5 then (radar_Works [] 0 5).bind fun r14 =>
  R.ok r14 else R.ok false).bind (fun (b6 : Bool) => (if b6 then (radar_Check 0 r1.1).bind fun r15 =>
  R.ok (r15 == 260) else R.ok false).bind (fun (b7 : Bool) => (if b7 then (radar_Check 1 r1.1).bind fun r16 =>
  R.ok (r16 == 0) else R.ok false).bind (fun (b8 : Bool) => .ok b8)))))) : Bool → R Bool) (fun (b3 : Bool) (fr : Nat → AV) (h : AHeap) => fr = frA [(2, (.sl 3 (List.map rStatus r1.1))), (14, (.int .i64 r6.2)), (15, (.sl 2 (List.map rSpan r7))), (113, (.bool b3))] ∧ h = hp h0 ids []) ?_ fun hJ10 => of_if1 (fun hb21 => ?_) (fun hb21 => ?_)
                      · rintro b3 fr h ⟨rfl, rfl⟩
                        refine wo_val (.bool b3) rfl pv_move ?_
                        refine wo_meet 3 [(2, (.sl 3 (List.map rStatus r1.1))), (15, (.sl 2 (List.map rSpan r7))), (117, (.bool (b3 && (r6.2 == 260))))] ?_ fun hJ11 => wo_cases b3 (fun hb23 => ?_) (fun hb23 => ?_)
                        · refine wo_val (.bool (b3 && (r6.2 == 260))) rfl pv_assign ?_
                          refine wo_nil ?_
                          refine wr_seq ?_
                          refine wr_region ?_
                          refine wo_val (.bool (b3 && (r6.2 == 260))) rfl pv_move ?_
                          refine wo_val (.bool (b3 && (r6.2 == 260))) rfl pv_move ?_
                          refine wo_join 5 ((fun (b4 : Bool) => (if b4 then (radar_Lost 0 [] []).bind fun r12 =>
  (ref05_Same r12 [({ From := 0, To := 1440 } : Span)]).bind fun r13 =>
  R.ok r13 else R.ok false).bind (fun (b5 : Bool) => (if b5 then (radar_Works [] 0 5).bind fun r14 =>
  R.ok r14 else R.ok false).bind (fun (b6 : Bool) => (if b6 then (radar_Check 0 r1.1).bind fun r15 =>
  R.ok (r15 == 260) else R.ok false).bind (fun (b7 : Bool) => (if b7 then (radar_Check 1 r1.1).bind fun r16 =>
  R.ok (r16 == 0) else R.ok false).bind (fun (b8 : Bool) => .ok b8))))) : Bool → R Bool) (fun (b4 : Bool) (fr : Nat → AV) (h : AHeap) => fr = frA [(2, (.sl 3 (List.map rStatus r1.1))), (124, (.bool b4))] ∧ h = hp h0 ids []) ?_ fun hJ12 => of_if1 (fun hb25 => ?_) (fun hb25 => ?_)
                          · rintro b4 fr h ⟨rfl, rfl⟩
                            refine wo_val (.bool b4) rfl pv_move ?_
                            refine wo_join 5 ((fun (b5 : Bool) => (if b5 then (radar_Works [] 0 5).bind fun r14 =>
  R.ok r14 else R.ok false).bind (fun (b6 : Bool) => (if b6 then (radar_Check 0 r1.1).bind fun r15 =>
  R.ok (r15 == 260) else R.ok false).bind (fun (b7 : Bool) => (if b7 then (radar_Check 1 r1.1).bind fun r16 =>
  R.ok (r16 == 0) else R.ok false).bind (fun (b8 : Bool) => .ok b8)))) : Bool → R Bool) (fun (b5 : Bool) (fr : Nat → AV) (h : AHeap) => fr = frA [(2, (.sl 3 (List.map rStatus r1.1))), (130, (.bool b5))] ∧ h = hp h0 ids []) ?_ fun hJ13 => of_if1 (fun hb27 => ?_) (fun hb27 => ?_)
                            · rintro b5 fr h ⟨rfl, rfl⟩
                              refine wo_val (.bool b5) rfl pv_move ?_
                              refine wo_join 2 ((fun (b6 : Bool) => (if b6 then (radar_Check 0 r1.1).bind fun r15 =>
  R.ok (r15 == 260) else R.ok false).bind (fun (b7 : Bool) => (if b7 then (radar_Check 1 r1.1).bind fun r16 =>
  R.ok (r16 == 0) else R.ok false).bind (fun (b8 : Bool) => .ok b8))) : Bool → R Bool) (fun (b6 : Bool) (fr : Nat → AV) (h : AHeap) => fr = frA [(2, (.sl 3 (List.map rStatus r1.1))), (133, (.bool b6))] ∧ h = hp h0 ids []) ?_ fun hJ14 => of_if1 (fun hb29 => ?_) (fun hb29 => ?_)
                              · rintro b6 fr h ⟨rfl, rfl⟩
                                refine wo_val (.bool b6) rfl pv_move ?_
                                refine wo_join 4 ((fun (b7 : Bool) => (if b7 then (radar_Check 1 r1.1).bind fun r16 =>
  R.ok (r16 == 0) else R.ok false).bind (fun (b8 : Bool) => .ok b8)) : Bool → R Bool) (fun (b7 : Bool) (fr : Nat → AV) (h : AHeap) => fr = frA [(2, (.sl 3 (List.map rStatus r1.1))), (138, (.bool b7))] ∧ h = hp h0 ids []) ?_ fun hJ15 => of_if1 (fun hb31 => ?_) (fun hb31 => ?_)
                                · rintro b7 fr h ⟨rfl, rfl⟩
                                  refine wo_val (.bool b7) rfl pv_move ?_
                                  refine wo_join 4 ((fun (b8 : Bool) => .ok b8) : Bool → R Bool) (fun (b8 : Bool) (fr : Nat → AV) (h : AHeap) => fr = frA [(143, (.bool b8))] ∧ h = hp h0 ids []) ?_ fun hJ16 => of_if1 (fun hb33 => ?_) (fun hb33 => ?_)
                                  · rintro b8 fr h ⟨rfl, rfl⟩
                                    refine wo_val (.bool b8) rfl pv_assign ?_
                                    refine wo_nil ?_
                                    exact wr_ret (a := b8) (vs := [(.bool b8)]) Try.func9 hI rfl (.same _)
                                  · refine wo_valg (tj := 139) (.sl 3 (List.map rStatus r1.1)) rfl (congrArg AV.bool hb33) rfl pv_move ?_
                                    refine of_call [(.int .i64 1), (.sl 3 (List.map rStatus r1.1))] rfl (wanted_yes (tj := 139) rfl (congrArg AV.bool hb33)) rfl rfl ((cp_radar_Check 1 r1.1) _) (fun v _ => wu_pan Try.func9 hI) fun r16 _ => ?_
                                    refine wo_valg (tj := 139) (.bool (r16 == 0)) rfl (congrArg AV.bool hb33) rfl (pv_bin rfl rfl rfl) ?_
                                    refine wo_val (.bool (r16 == 0)) rfl (pv_pick (t := true) (congrArg AV.bool hb33) rfl) ?_
                                    refine wo_back1 ?_
                                    refine wo_is [(143, (.bool (r16 == 0)))] (.cons rfl .nil) ?_
                                    exact hJ16 (r16 == 0) _ _ ⟨rfl, rfl⟩
                                  · refine wo_not (tj := 139) (b := false) rfl (congrArg AV.bool hb33) rfl rfl ?_
                                    refine wo_not (tj := 139) (b := false) rfl (congrArg AV.bool hb33) rfl rfl ?_
                                    refine wo_not (tj := 139) (b := false) rfl (congrArg AV.bool hb33) rfl rfl ?_
                                    refine wo_val (.bool false) rfl (pv_pick (t := false) (congrArg AV.bool hb33) rfl) ?_
                                    refine wo_back1 ?_
                                    refine wo_is [(143, (.bool false))] (.cons rfl .nil) ?_
                                    exact hJ16 false _ _ ⟨rfl, rfl⟩
                                · refine wo_valg (tj := 134) (.sl 3 (List.map rStatus r1.1)) rfl (congrArg AV.bool hb31) rfl pv_move ?_
                                  refine of_call [(.int .i64 0), (.sl 3 (List.map rStatus r1.1))] rfl (wanted_yes (tj := 134) rfl (congrArg AV.bool hb31)) rfl rfl ((cp_radar_Check 0 r1.1) _) (fun v _ => wu_pan Try.func9 hI) fun r15 _ => ?_
                                  refine wo_valg (tj := 134) (.bool (r15 == 260)) rfl (congrArg AV.bool hb31) rfl (pv_bin rfl rfl rfl) ?_
                                  refine wo_val (.bool (r15 == 260)) rfl (pv_pick (t := true) (congrArg AV.bool hb31) rfl) ?_
                                  refine wo_back1 ?_
                                  refine wo_is [(2, (.sl 3 (List.map rStatus r1.1))), (138, (.bool (r15 == 260)))] (.cons rfl (.cons rfl .nil)) ?_
                                  exact hJ15 (r15 == 260) _ _ ⟨rfl, rfl⟩
                                · refine wo_not (tj := 134) (b := false) rfl (congrArg AV.bool hb31) rfl rfl ?_
                                  refine wo_not (tj := 134) (b := false) rfl (congrArg AV.bool hb31) rfl rfl ?_
                                  refine wo_not (tj := 134) (b := false) rfl (congrArg AV.bool hb31) rfl rfl ?_
                                  refine wo_val (.bool false) rfl (pv_pick (t := false) (congrArg AV.bool hb31) rfl) ?_
                                  refine wo_back1 ?_
                                  refine wo_is [(2, (.sl 3 (List.map rStatus r1.1))), (138, (.bool false))] (.cons rfl (.cons rfl .nil)) ?_
                                  exact hJ15 false _ _ ⟨rfl, rfl⟩
                              · refine of_call [.emp, (.int .i64 0), (.int .i64 5)] rfl (wanted_yes (tj := 131) rfl (congrArg AV.bool hb29)) rfl rfl (fun hb => ACalls.weak (.cons (.emp _) (.cons (.same _) (.cons (.same _) .nil))) ((cp_radar_Works [] 0 5) _ hb)) (fun v _ => wu_pan Try.func9 hI) fun r14 _ => ?_
                                refine wo_val (.bool r14) rfl (pv_pick (t := true) (congrArg AV.bool hb29) rfl) ?_
                                refine wo_back1 ?_
                                refine wo_is [(2, (.sl 3 (List.map rStatus r1.1))), (133, (.bool r14))] (.cons rfl (.cons rfl .nil)) ?_
                                exact hJ14 r14 _ _ ⟨rfl, rfl⟩
                              · refine wo_not (tj := 131) (b := false) rfl (congrArg AV.bool hb29) rfl rfl ?_
                                refine wo_val (.bool false) rfl (pv_pick (t := false) (congrArg AV.bool hb29) rfl) ?_
                                refine wo_back1 ?_
                                refine wo_is [(2, (.sl 3 (List.map rStatus r1.1))), (133, (.bool false))] (.cons rfl (.cons rfl .nil)) ?_
                                exact hJ14 false _ _ ⟨rfl, rfl⟩
                            · refine of_call [(.int .i64 0), .emp, .emp] rfl (wanted_yes (tj := 125) rfl (congrArg AV.bool hb27)) rfl rfl (fun hb => ACalls.weak (.cons (.same _) (.cons (.emp _) (.cons (.emp _) .nil))) ((cp_radar_Lost 0 [] []) _ hb)) (fun v _ => wu_pan Try.func9 hI) fun r12 _ => ?_
                              refine wo_valg (tj := 125) (.agg [(.int .i64 0), (.int .i64 1440)]) rfl (congrArg AV.bool hb27) rfl (pv_build (bd_st ti52 pl52 rfl)) ?_
                              refine wo_opg (tj := 125) rfl (congrArg AV.bool hb27) rfl (fun _ _ => rfl) (fun K hK => eff_bsC (e := rSpan) (L := [({ From := 0, To := 1440 } : Span)]) (st := 2) (rows := [[(.int .i64 0), (.int .i64 1440)]]) ti46 ti52 rfl rfl rfl rfl rfl (.cons (.cons (.same _) (.cons (.same _) .nil)) .nil) (fun x => ok_Span x) rfl rfl (hK _ _ ?_)) 
                              clear hK K
                              refine of_call [(.sl 2 (List.map rSpan r12)), (.sl 2 (List.map rSpan [({ From := 0, To := 1440 } : Span)]))] rfl (wanted_yes (tj := 125) rfl (congrArg AV.bool hb27)) rfl rfl ((cp_ref05_Same r12 [({ From := 0, To := 1440 } : Span)]) _) (fun v _ => wu_pan Try.func9 hI) fun r13 _ => ?_
                              refine wo_val (.bool r13) rfl (pv_pick (t := true) (congrArg AV.bool hb27) rfl) ?_
                              refine wo_back1 ?_
                              refine wo_is [(2, (.sl 3 (List.map rStatus r1.1))), (130, (.bool r13))] (.cons rfl (.cons rfl .nil)) ?_
                              exact hJ13 r13 _ _ ⟨rfl, rfl⟩
                            · refine wo_not (tj := 125) (b := false) rfl (congrArg AV.bool hb27) rfl rfl ?_
                              refine wo_not (tj := 125) (b := false) rfl (congrArg AV.bool hb27) rfl rfl ?_
                              refine wo_not (tj := 125) (b := false) rfl (congrArg AV.bool hb27) rfl rfl ?_
                              refine wo_not (tj := 125) (b := false) rfl (congrArg AV.bool hb27) rfl rfl ?_
                              refine wo_val (.bool false) rfl (pv_pick (t := false) (congrArg AV.bool hb27) rfl) ?_
                              refine wo_back1 ?_
                              refine wo_is [(2, (.sl 3 (List.map rStatus r1.1))), (130, (.bool false))] (.cons rfl (.cons rfl .nil)) ?_
                              exact hJ13 false _ _ ⟨rfl, rfl⟩
                          · refine wo_valg (tj := 119) (.sl 2 (List.map rSpan r7)) rfl (congrArg AV.bool hb25) rfl pv_move ?_
                            refine wo_valg (tj := 119) (.agg [(.int .i64 60), (.int .i64 100)]) rfl (congrArg AV.bool hb25) rfl (pv_build (bd_st ti52 pl52 rfl)) ?_
                            refine wo_opg (tj := 119) rfl (congrArg AV.bool hb25) rfl (fun _ _ => rfl) (fun K hK => eff_bsC (e := rSpan) (L := [({ From := 60, To := 100 } : Span)]) (st := 2) (rows := [[(.int .i64 60), (.int .i64 100)]]) ti46 ti52 rfl rfl rfl rfl rfl (.cons (.cons (.same _) (.cons (.same _) .nil)) .nil) (fun x => ok_Span x) rfl rfl (hK _ _ ?_)) 
                            clear hK K
                            refine of_call [(.sl 2 (List.map rSpan r7)), (.sl 2 (List.map rSpan [({ From := 60, To := 100 } : Span)]))] rfl (wanted_yes (tj := 119) rfl (congrArg AV.bool hb25)) rfl rfl ((cp_ref05_Same r7 [({ From := 60, To := 100 } : Span)]) _) (fun v _ => wu_pan Try.func9 hI) fun r11 _ => ?_
                            refine wo_val (.bool r11) rfl (pv_pick (t := true) (congrArg AV.bool hb25) rfl) ?_
                            refine wo_back1 ?_
                            refine wo_is [(2, (.sl 3 (List.map rStatus r1.1))), (124, (.bool r11))] (.cons rfl (.cons rfl .nil)) ?_
                            exact hJ12 r11 _ _ ⟨rfl, rfl⟩
                          · refine wo_not (tj := 119) (b := false) rfl (congrArg AV.bool hb25) rfl rfl ?_
                            refine wo_not (tj := 119) (b := false) rfl (congrArg AV.bool hb25) rfl rfl ?_
                            refine wo_not (tj := 119) (b := false) rfl (congrArg AV.bool hb25) rfl rfl ?_
                            refine wo_not (tj := 119) (b := false) rfl (congrArg AV.bool hb25) rfl rfl ?_
                            refine wo_val (.bool false) rfl (pv_pick (t := false) (congrArg AV.bool hb25) rfl) ?_
                            refine wo_back1 ?_
                            refine wo_is [(2, (.sl 3 (List.map rStatus r1.1))), (124, (.bool false))] (.cons rfl (.cons rfl .nil)) ?_
                            exact hJ12 false _ _ ⟨rfl, rfl⟩
                        · refine wo_valg (tj := 114) (.int .i64 r6.2) rfl (congrArg AV.bool hb23) rfl pv_move ?_
                          refine wo_valg (tj := 114) (.bool (r6.2 == 260)) rfl (congrArg AV.bool hb23) rfl (pv_bin rfl rfl rfl) ?_
                          refine wo_val (.bool (r6.2 == 260)) rfl (pv_pick (t := true) (congrArg AV.bool hb23) rfl) ?_
                          exact wo_is [(2, (.sl 3 (List.map rStatus r1.1))), (15, (.sl 2 (List.map rSpan r7))), (117, (.bool (b3 && (r6.2 == 260))))] (.cons rfl (.cons rfl (.cons (and_t hb23) .nil))) hJ11
                        · refine wo_not (tj := 114) (b := false) rfl (congrArg AV.bool hb23) rfl rfl ?_
                          refine wo_not (tj := 114) (b := false) rfl (congrArg AV.bool hb23) rfl rfl ?_
                          refine wo_val (.bool false) rfl (pv_pick (t := false) (congrArg AV.bool hb23) rfl) ?_
                          exact wo_is [(2, (.sl 3 (List.map rStatus r1.1))), (15, (.sl 2 (List.map rSpan r7))), (117, (.bool (b3 && (r6.2 == 260))))] (.cons rfl (.cons rfl (.cons (and_f hb23) .nil))) hJ11
                      · refine wo_valg (tj := 109) (.sl 1 (List.map rB r5.1)) rfl (congrArg AV.bool hb21) rfl pv_move ?_
                        refine wo_opg (tj := 109) rfl (congrArg AV.bool hb21) rfl (fun _ _ => rfl) (fun K hK => eff_bsC (e := rB) (L := [false]) (st := 1) (rows := [[(.bool false)]]) ti39 ti4 rfl rfl rfl rfl rfl (.cons (RowSim.refl _) .nil) (fun x => ok_B x) rfl rfl (hK _ _ ?_)) 
                        clear hK K
                        refine of_call [(.sl 1 (List.map rB r5.1)), (.sl 1 (List.map rB [false]))] rfl (wanted_yes (tj := 109) rfl (congrArg AV.bool hb21)) rfl rfl ((cp_ref26_SameSeen r5.1 [false]) _) (fun v _ => wu_pan Try.func9 hI) fun r10 _ => ?_
                        refine wo_val (.bool r10) rfl (pv_pick (t := true) (congrArg AV.bool hb21) rfl) ?_
                        refine wo_back1 ?_
                        refine wo_is [(2, (.sl 3 (List.map rStatus r1.1))), (14, (.int .i64 r6.2)), (15, (.sl 2 (List.map rSpan r7))), (113, (.bool r10))] (.cons rfl (.cons rfl (.cons rfl (.cons rfl .nil)))) ?_
                        exact hJ10 r10 _ _ ⟨rfl, rfl⟩
                      · refine wo_not (tj := 109) (b := false) rfl (congrArg AV.bool hb21) rfl rfl ?_
                        refine wo_not (tj := 109) (b := false) rfl (congrArg AV.bool hb21) rfl rfl ?_
                        refine wo_not (tj := 109) (b := false) rfl (congrArg AV.bool hb21) rfl rfl ?_
                        refine wo_val (.bool false) rfl (pv_pick (t := false) (congrArg AV.bool hb21) rfl) ?_
                        refine wo_back1 ?_
                        refine wo_is [(2, (.sl 3 (List.map rStatus r1.1))), (14, (.int .i64 r6.2)), (15, (.sl 2 (List.map rSpan r7))), (113, (.bool false))] (.cons rfl (.cons rfl (.cons rfl (.cons rfl .nil)))) ?_
                        exact hJ10 false _ _ ⟨rfl, rfl⟩
                    · refine wo_valg (tj := 105) (.int .i64 r5.2) rfl (congrArg AV.bool hb19) rfl pv_move ?_
                      refine wo_valg (tj := 105) (.bool (r5.2 == 0)) rfl (congrArg AV.bool hb19) rfl (pv_bin rfl rfl rfl) ?_
                      refine wo_val (.bool (r5.2 == 0)) rfl (pv_pick (t := true) (congrArg AV.bool hb19) rfl) ?_
                      exact wo_is [(2, (.sl 3 (List.map rStatus r1.1))), (11, (.sl 1 (List.map rB r5.1))), (14, (.int .i64 r6.2)), (15, (.sl 2 (List.map rSpan r7))), (108, (.bool (b2 && (r5.2 == 0))))] (.cons rfl (.cons rfl (.cons rfl (.cons rfl (.cons (and_t hb19) .nil))))) hJ9
                    · refine wo_not (tj := 105) (b := false) rfl (congrArg AV.bool hb19) rfl rfl ?_
                      refine wo_not (tj := 105) (b := false) rfl (congrArg AV.bool hb19) rfl rfl ?_
                      refine wo_val (.bool false) rfl (pv_pick (t := false) (congrArg AV.bool hb19) rfl) ?_
                      exact wo_is [(2, (.sl 3 (List.map rStatus r1.1))), (11, (.sl 1 (List.map rB r5.1))), (14, (.int .i64 r6.2)), (15, (.sl 2 (List.map rSpan r7))), (108, (.bool (b2 && (r5.2 == 0))))] (.cons rfl (.cons rfl (.cons rfl (.cons rfl (.cons (and_f hb19) .nil))))) hJ9
                  · refine wo_valg (tj := 100) (.sl 1 (List.map rB r4.1)) rfl (congrArg AV.bool hb17) rfl pv_move ?_
                    refine wo_opg (tj := 100) rfl (congrArg AV.bool hb17) rfl (fun _ _ => rfl) (fun K hK => eff_bsC (e := rB) (L := [false, false]) (st := 1) (rows := [[(.bool false)], [(.bool false)]]) ti39 ti4 rfl rfl rfl rfl rfl (.cons (RowSim.refl _) (.cons (RowSim.refl _) .nil)) (fun x => ok_B x) rfl rfl (hK _ _ ?_)) 
                    clear hK K
                    refine of_call [(.sl 1 (List.map rB r4.1)), (.sl 1 (List.map rB [false, false]))] rfl (wanted_yes (tj := 100) rfl (congrArg AV.bool hb17)) rfl rfl ((cp_ref26_SameSeen r4.1 [false, false]) _) (fun v _ => wu_pan Try.func9 hI) fun r9 _ => ?_
                    refine wo_val (.bool r9) rfl (pv_pick (t := true) (congrArg AV.bool hb17) rfl) ?_
                    refine wo_back1 ?_
                    refine wo_is [(2, (.sl 3 (List.map rStatus r1.1))), (11, (.sl 1 (List.map rB r5.1))), (12, (.int .i64 r5.2)), (14, (.int .i64 r6.2)), (15, (.sl 2 (List.map rSpan r7))), (104, (.bool r9))] (.cons rfl (.cons rfl (.cons rfl (.cons rfl (.cons rfl (.cons rfl .nil)))))) ?_
                    exact hJ8 r9 _ _ ⟨rfl, rfl⟩
                  · refine wo_not (tj := 100) (b := false) rfl (congrArg AV.bool hb17) rfl rfl ?_
                    refine wo_not (tj := 100) (b := false) rfl (congrArg AV.bool hb17) rfl rfl ?_
                    refine wo_not (tj := 100) (b := false) rfl (congrArg AV.bool hb17) rfl rfl ?_
                    refine wo_val (.bool false) rfl (pv_pick (t := false) (congrArg AV.bool hb17) rfl) ?_
                    refine wo_back1 ?_
                    refine wo_is [(2, (.sl 3 (List.map rStatus r1.1))), (11, (.sl 1 (List.map rB r5.1))), (12, (.int .i64 r5.2)), (14, (.int .i64 r6.2)), (15, (.sl 2 (List.map rSpan r7))), (104, (.bool false))] (.cons rfl (.cons rfl (.cons rfl (.cons rfl (.cons rfl (.cons rfl .nil)))))) ?_
                    exact hJ8 false _ _ ⟨rfl, rfl⟩
                · refine wo_valg (tj := 96) (.int .i64 r4.2) rfl (congrArg AV.bool hb15) rfl pv_move ?_
                  refine wo_valg (tj := 96) (.bool (r4.2 == 0)) rfl (congrArg AV.bool hb15) rfl (pv_bin rfl rfl rfl) ?_
                  refine wo_val (.bool (r4.2 == 0)) rfl (pv_pick (t := true) (congrArg AV.bool hb15) rfl) ?_
                  exact wo_is [(2, (.sl 3 (List.map rStatus r1.1))), (9, (.sl 1 (List.map rB r4.1))), (11, (.sl 1 (List.map rB r5.1))), (12, (.int .i64 r5.2)), (14, (.int .i64 r6.2)), (15, (.sl 2 (List.map rSpan r7))), (99, (.bool (b1 && (r4.2 == 0))))] (.cons rfl (.cons rfl (.cons rfl (.cons rfl (.cons rfl (.cons rfl (.cons (and_t hb15) .nil))))))) hJ7
                · refine wo_not (tj := 96) (b := false) rfl (congrArg AV.bool hb15) rfl rfl ?_
                  refine wo_not (tj := 96) (b := false) rfl (congrArg AV.bool hb15) rfl rfl ?_
                  refine wo_val (.bool false) rfl (pv_pick (t := false) (congrArg AV.bool hb15) rfl) ?_
                  exact wo_is [(2, (.sl 3 (List.map rStatus r1.1))), (9, (.sl 1 (List.map rB r4.1))), (11, (.sl 1 (List.map rB r5.1))), (12, (.int .i64 r5.2)), (14, (.int .i64 r6.2)), (15, (.sl 2 (List.map rSpan r7))), (99, (.bool (b1 && (r4.2 == 0))))] (.cons rfl (.cons rfl (.cons rfl (.cons rfl (.cons rfl (.cons rfl (.cons (and_f hb15) .nil))))))) hJ7
              · refine wo_valg (tj := 91) (.sl 1 (List.map rB r3.1)) rfl (congrArg AV.bool hb13) rfl pv_move ?_
                refine wo_opg (tj := 91) rfl (congrArg AV.bool hb13) rfl (fun _ _ => rfl) (fun K hK => eff_bsC (e := rB) (L := [true, false]) (st := 1) (rows := [[(.bool true)], [(.bool false)]]) ti39 ti4 rfl rfl rfl rfl rfl (.cons (RowSim.refl _) (.cons (RowSim.refl _) .nil)) (fun x => ok_B x) rfl rfl (hK _ _ ?_)) 
                clear hK K
                refine of_call [(.sl 1 (List.map rB r3.1)), (.sl 1 (List.map rB [true, false]))] rfl (wanted_yes (tj := 91) rfl (congrArg AV.bool hb13)) rfl rfl ((cp_ref26_SameSeen r3.1 [true, false]) _) (fun v _ => wu_pan Try.func9 hI) fun r8 _ => ?_
                refine wo_val (.bool r8) rfl (pv_pick (t := true) (congrArg AV.bool hb13) rfl) ?_
                refine wo_back1 ?_
                refine wo_is [(2, (.sl 3 (List.map rStatus r1.1))), (9, (.sl 1 (List.map rB r4.1))), (10, (.int .i64 r4.2)), (11, (.sl 1 (List.map rB r5.1))), (12, (.int .i64 r5.2)), (14, (.int .i64 r6.2)), (15, (.sl 2 (List.map rSpan r7))), (95, (.bool r8))] (.cons rfl (.cons rfl (.cons rfl (.cons rfl (.cons rfl (.cons rfl (.cons rfl (.cons rfl .nil)))))))) ?_
                exact hJ6 r8 _ _ ⟨rfl, rfl⟩
              · refine wo_not (tj := 91) (b := false) rfl (congrArg AV.bool hb13) rfl rfl ?_
                refine wo_not (tj := 91) (b := false) rfl (congrArg AV.bool hb13) rfl rfl ?_
                refine wo_not (tj := 91) (b := false) rfl (congrArg AV.bool hb13) rfl rfl ?_
                refine wo_val (.bool false) rfl (pv_pick (t := false) (congrArg AV.bool hb13) rfl) ?_
                refine wo_back1 ?_
                refine wo_is [(2, (.sl 3 (List.map rStatus r1.1))), (9, (.sl 1 (List.map rB r4.1))), (10, (.int .i64 r4.2)), (11, (.sl 1 (List.map rB r5.1))), (12, (.int .i64 r5.2)), (14, (.int .i64 r6.2)), (15, (.sl 2 (List.map rSpan r7))), (95, (.bool false))] (.cons rfl (.cons rfl (.cons rfl (.cons rfl (.cons rfl (.cons rfl (.cons rfl (.cons rfl .nil)))))))) ?_
                exact hJ6 false _ _ ⟨rfl, rfl⟩
            · refine wo_valg (tj := 87) (.int .i64 r3.2) rfl (congrArg AV.bool hb11) rfl pv_move ?_
              refine wo_valg (tj := 87) (.bool (r3.2 == 0)) rfl (congrArg AV.bool hb11) rfl (pv_bin rfl rfl rfl) ?_
              refine wo_val (.bool (r3.2 == 0)) rfl (pv_pick (t := true) (congrArg AV.bool hb11) rfl) ?_
              exact wo_is [(2, (.sl 3 (List.map rStatus r1.1))), (7, (.sl 1 (List.map rB r3.1))), (9, (.sl 1 (List.map rB r4.1))), (10, (.int .i64 r4.2)), (11, (.sl 1 (List.map rB r5.1))), (12, (.int .i64 r5.2)), (14, (.int .i64 r6.2)), (15, (.sl 2 (List.map rSpan r7))), (90, (.bool (b && (r3.2 == 0))))] (.cons rfl (.cons rfl (.cons rfl (.cons rfl (.cons rfl (.cons rfl (.cons rfl (.cons rfl (.cons (and_t hb11) .nil))))))))) hJ5
            · refine wo_not (tj := 87) (b := false) rfl (congrArg AV.bool hb11) rfl rfl ?_
              refine wo_not (tj := 87) (b := false) rfl (congrArg AV.bool hb11) rfl rfl ?_
              refine wo_val (.bool false) rfl (pv_pick (t := false) (congrArg AV.bool hb11) rfl) ?_
              exact wo_is [(2, (.sl 3 (List.map rStatus r1.1))), (7, (.sl 1 (List.map rB r3.1))), (9, (.sl 1 (List.map rB r4.1))), (10, (.int .i64 r4.2)), (11, (.sl 1 (List.map rB r5.1))), (12, (.int .i64 r5.2)), (14, (.int .i64 r6.2)), (15, (.sl 2 (List.map rSpan r7))), (90, (.bool (b && (r3.2 == 0))))] (.cons rfl (.cons rfl (.cons rfl (.cons rfl (.cons rfl (.cons rfl (.cons rfl (.cons rfl (.cons (and_f hb11) .nil))))))))) hJ5
          · refine wo_valg (tj := 81) (.sl 3 (List.map rStatus r2.1)) rfl (congrArg AV.bool hb9) rfl pv_move ?_
            refine of_idx fun a hz hx1 => ?_
            refine wo_valg (tj := 81) (.cp (rStatus a) 0) rfl (congrArg AV.bool hb9) rfl (pv_ixa (ixa_sl ti22 ti24 rfl hz hx1)) ?_
            refine wo_valg (tj := 81) (.cp (rStatus a) 2) rfl (congrArg AV.bool hb9) rfl (pv_fa (fa_cp (c := 0) (off := 2) (i := 2) ti24 rfl ti4 rfl)) ?_
            refine wo_valg (tj := 81) (.bool a.Works) rfl (congrArg AV.bool hb9) rfl (pv_load (ld_cp ti4 rfl)) ?_
            refine wo_val (.bool a.Works) rfl (pv_pick (t := true) (congrArg AV.bool hb9) rfl) ?_
            refine wo_back1 ?_
            refine wo_is [(2, (.sl 3 (List.map rStatus r1.1))), (7, (.sl 1 (List.map rB r3.1))), (8, (.int .i64 r3.2)), (9, (.sl 1 (List.map rB r4.1))), (10, (.int .i64 r4.2)), (11, (.sl 1 (List.map rB r5.1))), (12, (.int .i64 r5.2)), (14, (.int .i64 r6.2)), (15, (.sl 2 (List.map rSpan r7))), (86, (.bool a.Works))] (.cons rfl (.cons rfl (.cons rfl (.cons rfl (.cons rfl (.cons rfl (.cons rfl (.cons rfl (.cons rfl (.cons rfl .nil)))))))))) ?_
            exact hJ4 a.Works _ _ ⟨rfl, rfl⟩
          · refine wo_not (tj := 81) (b := false) rfl (congrArg AV.bool hb9) rfl rfl ?_
            refine wo_not (tj := 81) (b := false) rfl (congrArg AV.bool hb9) rfl rfl ?_
            refine wo_not (tj := 81) (b := false) rfl (congrArg AV.bool hb9) rfl rfl ?_
            refine wo_not (tj := 81) (b := false) rfl (congrArg AV.bool hb9) rfl rfl ?_
            refine wo_val (.bool false) rfl (pv_pick (t := false) (congrArg AV.bool hb9) rfl) ?_
            refine wo_back1 ?_
            refine wo_is [(2, (.sl 3 (List.map rStatus r1.1))), (7, (.sl 1 (List.map rB r3.1))), (8, (.int .i64 r3.2)), (9, (.sl 1 (List.map rB r4.1))), (10, (.int .i64 r4.2)), (11, (.sl 1 (List.map rB r5.1))), (12, (.int .i64 r5.2)), (14, (.int .i64 r6.2)), (15, (.sl 2 (List.map rSpan r7))), (86, (.bool false))] (.cons rfl (.cons rfl (.cons rfl (.cons rfl (.cons rfl (.cons rfl (.cons rfl (.cons rfl (.cons rfl (.cons rfl .nil)))))))))) ?_
            exact hJ4 false _ _ ⟨rfl, rfl⟩
        · refine wo_valg (tj := 76) (.sl 3 (List.map rStatus r2.1)) rfl (congrArg AV.bool hb7) rfl pv_move ?_
          refine wo_valg (tj := 76) (.int .i64 (r2.1.length : Int)) rfl (congrArg AV.bool hb7) rfl (pv_len (len_sl ti22)) ?_
          refine wo_valg (tj := 76) (.bool ((r2.1.length : Int) == 2)) rfl (congrArg AV.bool hb7) rfl (pv_bin rfl rfl rfl) ?_
          refine wo_val (.bool ((r2.1.length : Int) == 2)) rfl (pv_pick (t := true) (congrArg AV.bool hb7) rfl) ?_
          exact wo_is [(2, (.sl 3 (List.map rStatus r1.1))), (5, (.sl 3 (List.map rStatus r2.1))), (7, (.sl 1 (List.map rB r3.1))), (8, (.int .i64 r3.2)), (9, (.sl 1 (List.map rB r4.1))), (10, (.int .i64 r4.2)), (11, (.sl 1 (List.map rB r5.1))), (12, (.int .i64 r5.2)), (14, (.int .i64 r6.2)), (15, (.sl 2 (List.map rSpan r7))), (80, (.bool (((((r.2 == 0) && (r1.2 == 0)) && ((r1.1.length : Int) == 2)) && (r2.2 == 0)) && ((r2.1.length : Int) == 2))))] (.cons rfl (.cons rfl (.cons rfl (.cons rfl (.cons rfl (.cons rfl (.cons rfl (.cons rfl (.cons rfl (.cons rfl (.cons (and_t hb7) .nil))))))))))) hJ3
        · refine wo_not (tj := 76) (b := false) rfl (congrArg AV.bool hb7) rfl rfl ?_
          refine wo_not (tj := 76) (b := false) rfl (congrArg AV.bool hb7) rfl rfl ?_
          refine wo_not (tj := 76) (b := false) rfl (congrArg AV.bool hb7) rfl rfl ?_
          refine wo_val (.bool false) rfl (pv_pick (t := false) (congrArg AV.bool hb7) rfl) ?_
          exact wo_is [(2, (.sl 3 (List.map rStatus r1.1))), (5, (.sl 3 (List.map rStatus r2.1))), (7, (.sl 1 (List.map rB r3.1))), (8, (.int .i64 r3.2)), (9, (.sl 1 (List.map rB r4.1))), (10, (.int .i64 r4.2)), (11, (.sl 1 (List.map rB r5.1))), (12, (.int .i64 r5.2)), (14, (.int .i64 r6.2)), (15, (.sl 2 (List.map rSpan r7))), (80, (.bool (((((r.2 == 0) && (r1.2 == 0)) && ((r1.1.length : Int) == 2)) && (r2.2 == 0)) && ((r2.1.length : Int) == 2))))] (.cons rfl (.cons rfl (.cons rfl (.cons rfl (.cons rfl (.cons rfl (.cons rfl (.cons rfl (.cons rfl (.cons rfl (.cons (and_f hb7) .nil))))))))))) hJ3
      · refine wo_valg (tj := 72) (.int .i64 r2.2) rfl (congrArg AV.bool hb5) rfl pv_move ?_
        refine wo_valg (tj := 72) (.bool (r2.2 == 0)) rfl (congrArg AV.bool hb5) rfl (pv_bin rfl rfl rfl) ?_
        refine wo_val (.bool (r2.2 == 0)) rfl (pv_pick (t := true) (congrArg AV.bool hb5) rfl) ?_
        exact wo_is [(2, (.sl 3 (List.map rStatus r1.1))), (5, (.sl 3 (List.map rStatus r2.1))), (7, (.sl 1 (List.map rB r3.1))), (8, (.int .i64 r3.2)), (9, (.sl 1 (List.map rB r4.1))), (10, (.int .i64 r4.2)), (11, (.sl 1 (List.map rB r5.1))), (12, (.int .i64 r5.2)), (14, (.int .i64 r6.2)), (15, (.sl 2 (List.map rSpan r7))), (75, (.bool ((((r.2 == 0) && (r1.2 == 0)) && ((r1.1.length : Int) == 2)) && (r2.2 == 0))))] (.cons rfl (.cons rfl (.cons rfl (.cons rfl (.cons rfl (.cons rfl (.cons rfl (.cons rfl (.cons rfl (.cons rfl (.cons (and_t hb5) .nil))))))))))) hJ2
      · refine wo_not (tj := 72) (b := false) rfl (congrArg AV.bool hb5) rfl rfl ?_
        refine wo_not (tj := 72) (b := false) rfl (congrArg AV.bool hb5) rfl rfl ?_
        refine wo_val (.bool false) rfl (pv_pick (t := false) (congrArg AV.bool hb5) rfl) ?_
        exact wo_is [(2, (.sl 3 (List.map rStatus r1.1))), (5, (.sl 3 (List.map rStatus r2.1))), (7, (.sl 1 (List.map rB r3.1))), (8, (.int .i64 r3.2)), (9, (.sl 1 (List.map rB r4.1))), (10, (.int .i64 r4.2)), (11, (.sl 1 (List.map rB r5.1))), (12, (.int .i64 r5.2)), (14, (.int .i64 r6.2)), (15, (.sl 2 (List.map rSpan r7))), (75, (.bool ((((r.2 == 0) && (r1.2 == 0)) && ((r1.1.length : Int) == 2)) && (r2.2 == 0))))] (.cons rfl (.cons rfl (.cons rfl (.cons rfl (.cons rfl (.cons rfl (.cons rfl (.cons rfl (.cons rfl (.cons rfl (.cons (and_f hb5) .nil))))))))))) hJ2
    · refine wo_valg (tj := 67) (.sl 3 (List.map rStatus r1.1)) rfl (congrArg AV.bool hb3) rfl pv_move ?_
      refine wo_valg (tj := 67) (.int .i64 (r1.1.length : Int)) rfl (congrArg AV.bool hb3) rfl (pv_len (len_sl ti22)) ?_
      refine wo_valg (tj := 67) (.bool ((r1.1.length : Int) == 2)) rfl (congrArg AV.bool hb3) rfl (pv_bin rfl rfl rfl) ?_
      refine wo_val (.bool ((r1.1.length : Int) == 2)) rfl (pv_pick (t := true) (congrArg AV.bool hb3) rfl) ?_
      exact wo_is [(2, (.sl 3 (List.map rStatus r1.1))), (5, (.sl 3 (List.map rStatus r2.1))), (6, (.int .i64 r2.2)), (7, (.sl 1 (List.map rB r3.1))), (8, (.int .i64 r3.2)), (9, (.sl 1 (List.map rB r4.1))), (10, (.int .i64 r4.2)), (11, (.sl 1 (List.map rB r5.1))), (12, (.int .i64 r5.2)), (14, (.int .i64 r6.2)), (15, (.sl 2 (List.map rSpan r7))), (71, (.bool (((r.2 == 0) && (r1.2 == 0)) && ((r1.1.length : Int) == 2))))] (.cons rfl (.cons rfl (.cons rfl (.cons rfl (.cons rfl (.cons rfl (.cons rfl (.cons rfl (.cons rfl (.cons rfl (.cons rfl (.cons (and_t hb3) .nil)))))))))))) hJ1
    · refine wo_not (tj := 67) (b := false) rfl (congrArg AV.bool hb3) rfl rfl ?_
      refine wo_not (tj := 67) (b := false) rfl (congrArg AV.bool hb3) rfl rfl ?_
      refine wo_not (tj := 67) (b := false) rfl (congrArg AV.bool hb3) rfl rfl ?_
      refine wo_val (.bool false) rfl (pv_pick (t := false) (congrArg AV.bool hb3) rfl) ?_
      exact wo_is [(2, (.sl 3 (List.map rStatus r1.1))), (5, (.sl 3 (List.map rStatus r2.1))), (6, (.int .i64 r2.2)), (7, (.sl 1 (List.map rB r3.1))), (8, (.int .i64 r3.2)), (9, (.sl 1 (List.map rB r4.1))), (10, (.int .i64 r4.2)), (11, (.sl 1 (List.map rB r5.1))), (12, (.int .i64 r5.2)), (14, (.int .i64 r6.2)), (15, (.sl 2 (List.map rSpan r7))), (71, (.bool (((r.2 == 0) && (r1.2 == 0)) && ((r1.1.length : Int) == 2))))] (.cons rfl (.cons rfl (.cons rfl (.cons rfl (.cons rfl (.cons rfl (.cons rfl (.cons rfl (.cons rfl (.cons rfl (.cons rfl (.cons (and_f hb3) .nil)))))))))))) hJ1
  · refine wo_valg (tj := 63) (.int .i64 r1.2) rfl (congrArg AV.bool hb1) rfl pv_move ?_
    refine wo_valg (tj := 63) (.bool (r1.2 == 0)) rfl (congrArg AV.bool hb1) rfl (pv_bin rfl rfl rfl) ?_
    refine wo_val (.bool (r1.2 == 0)) rfl (pv_pick (t := true) (congrArg AV.bool hb1) rfl) ?_
    exact wo_is [(2, (.sl 3 (List.map rStatus r1.1))), (5, (.sl 3 (List.map rStatus r2.1))), (6, (.int .i64 r2.2)), (7, (.sl 1 (List.map rB r3.1))), (8, (.int .i64 r3.2)), (9, (.sl 1 (List.map rB r4.1))), (10, (.int .i64 r4.2)), (11, (.sl 1 (List.map rB r5.1))), (12, (.int .i64 r5.2)), (14, (.int .i64 r6.2)), (15, (.sl 2 (List.map rSpan r7))), (66, (.bool ((r.2 == 0) && (r1.2 == 0))))] (.cons rfl (.cons rfl (.cons rfl (.cons rfl (.cons rfl (.cons rfl (.cons rfl (.cons rfl (.cons rfl (.cons rfl (.cons rfl (.cons (and_t hb1) .nil)))))))))))) hJ
  · refine wo_not (tj := 63) (b := false) rfl (congrArg AV.bool hb1) rfl rfl ?_
    refine wo_not (tj := 63) (b := false) rfl (congrArg AV.bool hb1) rfl rfl ?_
    refine wo_val (.bool false) rfl (pv_pick (t := false) (congrArg AV.bool hb1) rfl) ?_
    exact wo_is [(2, (.sl 3 (List.map rStatus r1.1))), (5, (.sl 3 (List.map rStatus r2.1))), (6, (.int .i64 r2.2)), (7, (.sl 1 (List.map rB r3.1))), (8, (.int .i64 r3.2)), (9, (.sl 1 (List.map rB r4.1))), (10, (.int .i64 r4.2)), (11, (.sl 1 (List.map rB r5.1))), (12, (.int .i64 r5.2)), (14, (.int .i64 r6.2)), (15, (.sl 2 (List.map rSpan r7))), (66, (.bool ((r.2 == 0) && (r1.2 == 0))))] (.cons rfl (.cons rfl (.cons rfl (.cons rfl (.cons rfl (.cons rfl (.cons rfl (.cons rfl (.cons rfl (.cons rfl (.cons rfl (.cons (and_f hb1) .nil)))))))))))) hJ

theorem cp_ref26_Few (s : (List Station)) (l : (List Status)) : CP Try.prog 10 [(.sl 3 (List.map rStation s)), (.sl 3 (List.map rStatus l))] (ref26_Few s l) (fun (x : Bool) => (AV.bool x)) := by
  refine cp_intro (n := 27) 0 Try.func10 rfl (by decide) rfl rfl fun h0 ids hI => ?_
  refine wr_in (wr_mod (ref26_Few.eq_1 _ _) ?_)
  refine wr_seq ?_
  refine wr_region ?_
  refine wo_val (.bool false) rfl pv_assign ?_
  refine wo_nil ?_
  refine wr_seq ?_
  refine wr_seq ?_
  refine wr_region ?_
  refine wo_val (.int .i64 0) rfl pv_assign ?_
  refine wo_nil ?_
  refine wr_block ?_
  refine wr_is [(0, (.sl 3 (List.map rStation s))), (1, (.sl 3 (List.map rStatus l))), (5, (.int .i64 0))] (.cons rfl (.cons rfl (.cons rfl .nil))) ?_
  refine wf_each' (P := Try.prog) s (fun _ a => fun _ => ref26_Few_b1 a) ((alt (fun _ => .ok ((decide ((s.length : Int) ≤ 6)) && (decide ((l.length : Int) ≤ 12)))) (fun r => .ok r)) : (Unit ⊕ Bool) → R Bool)
    (fun j => fun _ => fun (fr : Nat → AV) (h : AHeap) => fr = frA [(0, (.sl 3 (List.map rStation s))), (1, (.sl 3 (List.map rStatus l))), (5, (.int .i64 (j : Int)))] ∧ h = hp h0 ids []) () ?_ ?_ ?_
  · exact ⟨rfl, rfl⟩
  · rintro j a ha W hW _ fr h ⟨rfl, rfl⟩
    refine wr_mod (m' := ref26_Few_b1 a) rfl (wr_mod (ref26_Few_b1.eq_1 _) ?_)
    refine wr_seq ?_
    refine wr_seq ?_
    refine wr_region ?_
    refine wo_val (.int .i64 (j : Int)) rfl pv_move ?_
    refine wo_val (.sl 3 (List.map rStation s)) rfl pv_move ?_
    refine wo_val (.int .i64 (s.length : Int)) rfl (pv_len (len_sl ti35)) ?_
    refine wo_val (.bool (decide ((j : Int) < (s.length : Int)))) rfl (pv_bin rfl rfl rfl) ?_
    refine wo_nil ?_
    refine wr_lim (t := 0) (L := s) rfl fun hlim => ?_
    refine wr_condT rfl (Int.ofNat_lt.2 (lt_of_get ha)) ?_
    refine wr_skip ?_
    refine wr_seq ?_
    refine wr_block ?_
    refine wr_seq ?_
    refine wr_region ?_
    refine wo_val (.sl 3 (List.map rStation s)) rfl pv_move ?_
    refine wo_val (.int .i64 (j : Int)) rfl pv_move ?_
    refine wo_val (.cp (rStation a) 0) rfl (pv_ixa (ixa_nat ti35 ti38 rfl ha)) ?_
    refine wo_val (.cp (rStation a) 0) rfl (pv_fa (fa_cp (c := 0) (off := 0) (i := 0) ti38 rfl ti36 rfl)) ?_
    refine wo_val (.sl 1 (List.map (rI .i64) a.Volumes)) rfl (pv_load (ld_cp ti36 rfl)) ?_
    refine wo_val (.int .i64 (a.Volumes.length : Int)) rfl (pv_len (len_sl ti36)) ?_
    refine wo_val (.bool (decide ((a.Volumes.length : Int) > 10))) rfl (pv_bin rfl rfl rfl) ?_
    refine wo_nil ?_
    refine wf_ite rfl (fun hc => ?_) (fun hc => ?_)
    · refine wr_seq ?_
      refine wr_region ?_
      refine wo_val (.bool false) rfl pv_assign ?_
      refine wo_nil ?_
      refine wx_each ?_
      refine w_altr ?_
      exact wr_ret (a := false) (vs := [(.bool false)]) Try.func10 hI rfl (.same _)
    · refine wr_skip ?_
      refine wr_inBlock ?_
      refine wr_region ?_
      refine wo_val (.int .i64 (j : Int)) rfl pv_move ?_
      refine wo_val (.int .i64 (IntKind.wrap .i64 ((j : Int) + 1))) rfl (pv_bin rfl rfl rfl) ?_
      refine wo_val (.int .i64 (IntKind.wrap .i64 ((j : Int) + 1))) rfl pv_assign ?_
      refine wo_nil ?_
      refine wr_is [(0, (.sl 3 (List.map rStation s))), (1, (.sl 3 (List.map rStatus l))), (5, (.int .i64 ((j + 1 : Nat) : Int)))] (.cons rfl (.cons rfl (.cons (inc_ok (lt_of_get ha) hlim) .nil))) ?_
      refine wb_each ?_
      refine hW () _ _ ?_
      exact ⟨rfl, rfl⟩
  · rintro _ fr h ⟨rfl, rfl⟩
    refine wr_mod (alt_inl _ _ _) ?_
    refine wr_seq ?_
    refine wr_seq ?_
    refine wr_region ?_
    refine wo_val (.int .i64 (s.length : Int)) rfl pv_move ?_
    refine wo_val (.sl 3 (List.map rStation s)) rfl pv_move ?_
    refine wo_val (.int .i64 (s.length : Int)) rfl (pv_len (len_sl ti35)) ?_
    refine wo_val (.bool (decide ((s.length : Int) < (s.length : Int)))) rfl (pv_bin rfl rfl rfl) ?_
    refine wo_nil ?_
    refine wr_condF rfl (Int.lt_irrefl _) ?_
    refine wr_exit rfl ?_
    refine wr_seq ?_
    refine wr_region ?_
    refine wo_val (.sl 3 (List.map rStation s)) rfl pv_move ?_
    refine wo_val (.int .i64 (s.length : Int)) rfl (pv_len (len_sl ti35)) ?_
    refine wo_val (.bool (decide ((s.length : Int) ≤ 6))) rfl (pv_bin rfl rfl rfl) ?_
    refine wo_val (.bool (decide ((s.length : Int) ≤ 6))) rfl pv_move ?_
    refine wo_meet 4 [(26, (.bool ((decide ((s.length : Int) ≤ 6)) && (decide ((l.length : Int) ≤ 12)))))] ?_ fun hJ => wo_cases (decide ((s.length : Int) ≤ 6)) (fun hb1 => ?_) (fun hb1 => ?_)
    · refine wo_val (.bool ((decide ((s.length : Int) ≤ 6)) && (decide ((l.length : Int) ≤ 12)))) rfl pv_assign ?_
      refine wo_nil ?_
      exact wr_ret (a := ((decide ((s.length : Int) ≤ 6)) && (decide ((l.length : Int) ≤ 12)))) (vs := [(.bool ((decide ((s.length : Int) ≤ 6)) && (decide ((l.length : Int) ≤ 12))))]) Try.func10 hI rfl (.same _)
    · refine wo_valg (tj := 22) (.sl 3 (List.map rStatus l)) rfl (congrArg AV.bool hb1) rfl pv_move ?_
      refine wo_valg (tj := 22) (.int .i64 (l.length : Int)) rfl (congrArg AV.bool hb1) rfl (pv_len (len_sl ti22)) ?_
      refine wo_valg (tj := 22) (.bool (decide ((l.length : Int) ≤ 12))) rfl (congrArg AV.bool hb1) rfl (pv_bin rfl rfl rfl) ?_
      refine wo_val (.bool (decide ((l.length : Int) ≤ 12))) rfl (pv_pick (t := true) (congrArg AV.bool hb1) rfl) ?_
      exact wo_is [(26, (.bool ((decide ((s.length : Int) ≤ 6)) && (decide ((l.length : Int) ≤ 12)))))] (.cons (and_t hb1) .nil) hJ
    · refine wo_not (tj := 22) (b := false) rfl (congrArg AV.bool hb1) rfl rfl ?_
      refine wo_not (tj := 22) (b := false) rfl (congrArg AV.bool hb1) rfl rfl ?_
      refine wo_not (tj := 22) (b := false) rfl (congrArg AV.bool hb1) rfl rfl ?_
      refine wo_val (.bool false) rfl (pv_pick (t := false) (congrArg AV.bool hb1) rfl) ?_
      exact wo_is [(26, (.bool ((decide ((s.length : Int) ≤ 6)) && (decide ((l.length : Int) ≤ 12)))))] (.cons (and_f hb1) .nil) hJ

theorem cp_ref26_in (n : Int) (least : Int) (most : Int) : CP Try.prog 28 [(.int .i64 n), (.int .i64 least), (.int .i64 most)] (ref26_in n least most) (fun (x : Bool) => (AV.bool x)) := by
  refine cp_intro (n := 15) 0 Try.func28 rfl (by decide) rfl rfl fun h0 ids hI => ?_
  refine wr_in (wr_mod (ref26_in.eq_1 _ _ _) ?_)
  refine wr_seq ?_
  refine wr_region ?_
  refine wo_val (.bool false) rfl pv_assign ?_
  refine wo_nil ?_
  refine wr_seq ?_
  refine wr_region ?_
  refine wo_val (.int .i64 n) rfl pv_move ?_
  refine wo_val (.int .i64 least) rfl pv_move ?_
  refine wo_val (.bool (decide (n ≥ least))) rfl (pv_bin rfl rfl rfl) ?_
  refine wo_val (.bool (decide (n ≥ least))) rfl pv_move ?_
  refine wo_meet 4 [(14, (.bool ((decide (n ≥ least)) && (decide (n ≤ most)))))] ?_ fun hJ => wo_cases (decide (n ≥ least)) (fun hb1 => ?_) (fun hb1 => ?_)
  · refine wo_val (.bool ((decide (n ≥ least)) && (decide (n ≤ most)))) rfl pv_assign ?_
    refine wo_nil ?_
    exact wr_ret (a := ((decide (n ≥ least)) && (decide (n ≤ most)))) (vs := [(.bool ((decide (n ≥ least)) && (decide (n ≤ most))))]) Try.func28 hI rfl (.same _)
  · refine wo_valg (tj := 10) (.int .i64 n) rfl (congrArg AV.bool hb1) rfl pv_move ?_
    refine wo_valg (tj := 10) (.int .i64 most) rfl (congrArg AV.bool hb1) rfl pv_move ?_
    refine wo_valg (tj := 10) (.bool (decide (n ≤ most))) rfl (congrArg AV.bool hb1) rfl (pv_bin rfl rfl rfl) ?_
    refine wo_val (.bool (decide (n ≤ most))) rfl (pv_pick (t := true) (congrArg AV.bool hb1) rfl) ?_
    exact wo_is [(14, (.bool ((decide (n ≥ least)) && (decide (n ≤ most)))))] (.cons (and_t hb1) .nil) hJ
  · refine wo_not (tj := 10) (b := false) rfl (congrArg AV.bool hb1) rfl rfl ?_
    refine wo_not (tj := 10) (b := false) rfl (congrArg AV.bool hb1) rfl rfl ?_
    refine wo_not (tj := 10) (b := false) rfl (congrArg AV.bool hb1) rfl rfl ?_
    refine wo_val (.bool false) rfl (pv_pick (t := false) (congrArg AV.bool hb1) rfl) ?_
    exact wo_is [(14, (.bool ((decide (n ≥ least)) && (decide (n ≤ most)))))] (.cons (and_f hb1) .nil) hJ

theorem cp_ref26_before (a : Status) (b : Status) : CP Try.prog 26 [(.agg (rStatus a)), (.agg (rStatus b))] (ref26_before a b) (fun (x : Bool) => (AV.bool x)) := by
  refine cp_intro (n := 24) 2 Try.func26 rfl (by decide) rfl rfl fun h0 ids hI => ?_
  refine wr_in (wr_mod (ref26_before.eq_1 _ _) ?_)
  refine wr_seq ?_
  refine wr_region ?_
  refine wo_box (v := (.agg (rStatus a))) (j := 0) hI rfl rfl rfl rfl rfl rfl rfl fun g => ?_
  refine wo_box (v := (.agg (rStatus b))) (j := 1) hI rfl rfl rfl rfl rfl rfl rfl fun g1 => ?_
  refine wo_val (.bool false) rfl pv_assign ?_
  refine wo_nil ?_
  refine wr_hp [(some (.rows g 3 [(rStatus a)])), (some (.rows g1 3 [(rStatus b)]))] rfl ?_
  refine wr_seq ?_
  refine wr_region ?_
  refine wo_val (.ptr (ix ids 0) g 0 0) rfl (pv_fa (fa_ptr (c := 0) (off := 0) (i := 0) ti24 rfl ti3 rfl)) ?_
  refine wo_val (.int .i64 a.Station) rfl (pv_load (ld_ptr hI rfl rfl rfl ti3 rfl)) ?_
  refine wo_val (.ptr (ix ids 1) g1 0 0) rfl (pv_fa (fa_ptr (c := 0) (off := 0) (i := 0) ti24 rfl ti3 rfl)) ?_
  refine wo_val (.int .i64 b.Station) rfl (pv_load (ld_ptr hI rfl rfl rfl ti3 rfl)) ?_
  refine wo_val (.bool (decide (a.Station < b.Station))) rfl (pv_bin rfl rfl rfl) ?_
  refine wo_val (.bool (decide (a.Station < b.Station))) rfl pv_move ?_
  refine wo_meet 13 [(23, (.bool ((decide (a.Station < b.Station)) || ((a.Station == b.Station) && (decide (a.From < b.From))))))] ?_ fun hJ => wo_cases (decide (a.Station < b.Station)) (fun hb1 => ?_) (fun hb1 => ?_)
  · refine wo_val (.bool ((decide (a.Station < b.Station)) || ((a.Station == b.Station) && (decide (a.From < b.From))))) rfl pv_assign ?_
    refine wo_nil ?_
    exact wr_ret (a := ((decide (a.Station < b.Station)) || ((a.Station == b.Station) && (decide (a.From < b.From))))) (vs := [(.bool ((decide (a.Station < b.Station)) || ((a.Station == b.Station) && (decide (a.From < b.From)))))]) Try.func26 hI rfl (.same _)
  · refine wo_not (tj := 10) (b := true) rfl (congrArg AV.bool hb1) rfl rfl ?_
    refine wo_not (tj := 10) (b := true) rfl (congrArg AV.bool hb1) rfl rfl ?_
    refine wo_not (tj := 10) (b := true) rfl (congrArg AV.bool hb1) rfl rfl ?_
    refine wo_not (tj := 10) (b := true) rfl (congrArg AV.bool hb1) rfl rfl ?_
    refine wo_not (tj := 10) (b := true) rfl (congrArg AV.bool hb1) rfl rfl ?_
    refine wo_not (tj := 10) (b := true) rfl (congrArg AV.bool hb1) rfl rfl ?_
    refine wo_notu (tj := 16) rfl rfl rfl ?_
    refine wo_notu (tj := 16) rfl rfl rfl ?_
    refine wo_notu (tj := 16) rfl rfl rfl ?_
    refine wo_notu (tj := 16) rfl rfl rfl ?_
    refine wo_notu (tj := 16) rfl rfl rfl ?_
    refine wo_not (tj := 10) (b := true) rfl (congrArg AV.bool hb1) rfl rfl ?_
    refine wo_val (.bool true) rfl (pv_pick (t := true) (congrArg AV.bool hb1) rfl) ?_
    exact wo_is [(23, (.bool ((decide (a.Station < b.Station)) || ((a.Station == b.Station) && (decide (a.From < b.From))))))] (.cons (or_t hb1) .nil) hJ
  · refine wo_valg (tj := 10) (.ptr (ix ids 0) g 0 0) rfl (congrArg AV.bool hb1) rfl (pv_fa (fa_ptr (c := 0) (off := 0) (i := 0) ti24 rfl ti3 rfl)) ?_
    refine wo_valg (tj := 10) (.int .i64 a.Station) rfl (congrArg AV.bool hb1) rfl (pv_load (ld_ptr hI rfl rfl rfl ti3 rfl)) ?_
    refine wo_valg (tj := 10) (.ptr (ix ids 1) g1 0 0) rfl (congrArg AV.bool hb1) rfl (pv_fa (fa_ptr (c := 0) (off := 0) (i := 0) ti24 rfl ti3 rfl)) ?_
    refine wo_valg (tj := 10) (.int .i64 b.Station) rfl (congrArg AV.bool hb1) rfl (pv_load (ld_ptr hI rfl rfl rfl ti3 rfl)) ?_
    refine wo_valg (tj := 10) (.bool (a.Station == b.Station)) rfl (congrArg AV.bool hb1) rfl (pv_bin rfl rfl rfl) ?_
    refine wo_valg (tj := 10) (.bool (a.Station == b.Station)) rfl (congrArg AV.bool hb1) rfl pv_move ?_
    refine wo_meet 6 [(10, (.bool (decide (a.Station < b.Station)))), (22, (.bool ((a.Station == b.Station) && (decide (a.From < b.From)))))] ?_ fun hJ1 => wo_cases (a.Station == b.Station) (fun hb3 => ?_) (fun hb3 => ?_)
    · refine wo_val (.bool ((a.Station == b.Station) && (decide (a.From < b.From)))) rfl (pv_pick (t := false) (congrArg AV.bool hb1) rfl) ?_
      exact wo_is [(23, (.bool ((decide (a.Station < b.Station)) || ((a.Station == b.Station) && (decide (a.From < b.From))))))] (.cons (or_f hb1) .nil) hJ
    · refine wo_valg (tj := 16) (.ptr (ix ids 0) g 0 1) rfl (congrArg AV.bool hb3) rfl (pv_fa (fa_ptr (c := 0) (off := 1) (i := 1) ti24 rfl ti3 rfl)) ?_
      refine wo_valg (tj := 16) (.int .i64 a.From) rfl (congrArg AV.bool hb3) rfl (pv_load (ld_ptr hI rfl rfl rfl ti3 rfl)) ?_
      refine wo_valg (tj := 16) (.ptr (ix ids 1) g1 0 1) rfl (congrArg AV.bool hb3) rfl (pv_fa (fa_ptr (c := 0) (off := 1) (i := 1) ti24 rfl ti3 rfl)) ?_
      refine wo_valg (tj := 16) (.int .i64 b.From) rfl (congrArg AV.bool hb3) rfl (pv_load (ld_ptr hI rfl rfl rfl ti3 rfl)) ?_
      refine wo_valg (tj := 16) (.bool (decide (a.From < b.From))) rfl (congrArg AV.bool hb3) rfl (pv_bin rfl rfl rfl) ?_
      refine wo_valg (tj := 10) (.bool (decide (a.From < b.From))) rfl (congrArg AV.bool hb1) rfl (pv_pick (t := true) (congrArg AV.bool hb3) rfl) ?_
      exact wo_is [(10, (.bool (decide (a.Station < b.Station)))), (22, (.bool ((a.Station == b.Station) && (decide (a.From < b.From)))))] (.cons rfl (.cons (and_t hb3) .nil)) hJ1
    · refine wo_not (tj := 16) (b := false) rfl (congrArg AV.bool hb3) rfl rfl ?_
      refine wo_not (tj := 16) (b := false) rfl (congrArg AV.bool hb3) rfl rfl ?_
      refine wo_not (tj := 16) (b := false) rfl (congrArg AV.bool hb3) rfl rfl ?_
      refine wo_not (tj := 16) (b := false) rfl (congrArg AV.bool hb3) rfl rfl ?_
      refine wo_not (tj := 16) (b := false) rfl (congrArg AV.bool hb3) rfl rfl ?_
      refine wo_valg (tj := 10) (.bool false) rfl (congrArg AV.bool hb1) rfl (pv_pick (t := false) (congrArg AV.bool hb3) rfl) ?_
      exact wo_is [(10, (.bool (decide (a.Station < b.Station)))), (22, (.bool ((a.Station == b.Station) && (decide (a.From < b.From)))))] (.cons rfl (.cons (and_f hb3) .nil)) hJ1
end Go.Am

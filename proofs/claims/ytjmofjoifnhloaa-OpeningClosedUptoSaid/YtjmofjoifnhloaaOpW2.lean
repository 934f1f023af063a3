/- The models hold of the program. Written by dc.py. -/
import Derived.Test.YtjmofjoifnhloaaOpW1
namespace Go.Am
open Go Go.Proofs
set_option maxRecDepth 100000
set_option linter.unusedSimpArgs false
set_option linter.unusedVariables false
theorem cp_law11_OpeningBlocked (a : Airspace) : CP Try.prog 5 [(.agg (rAirspace a))] (law11_OpeningBlocked a) (fun (x : Bool) => (AV.bool x)) := by
  refine cp_intro (n := 149) 1 Try.func5 rfl (by decide) rfl rfl fun h0 ids hI => ?_
  refine wr_in (wr_mod (law11_OpeningBlocked.eq_1 _) ?_)
  refine wr_seq ?_
  refine wr_region ?_
  refine wo_box (v := (.agg (rAirspace a))) (j := 0) hI rfl rfl rfl rfl rfl rfl rfl fun g => ?_
  refine wo_val (.bool false) rfl pv_assign ?_
  refine wo_nil ?_
  refine wr_hp [(some (.rows g 8 [(rAirspace a)]))] rfl ?_
  refine wr_seq ?_
  refine wr_seq ?_
  refine wr_region ?_
  refine of_call [] rfl rfl rfl rfl ((cp_law11_sane) _) (fun v _ => wu_pan Try.func5 hI) fun r _ => ?_
  refine wo_val (.bool (!r)) rfl (pv_un rfl) ?_
  refine wo_nil ?_
  refine wf_itebn rfl (fun hc => ?_) (fun hc => ?_)
  · refine wr_skip ?_
    refine wr_seq ?_
    refine wr_seq ?_
    refine wr_region ?_
    refine wo_val (.agg (rAirspace a)) rfl (pv_load (ld_ptr hI rfl rfl rfl ti31 rfl)) ?_
    refine of_call [(.agg (rAirspace a))] rfl rfl rfl rfl ((cp_ref11_Few a) _) (fun v _ => wu_pan Try.func5 hI) fun r1 _ => ?_
    refine wo_val (.bool (!r1)) rfl (pv_un rfl) ?_
    refine wo_nil ?_
    refine wf_itebn rfl (fun hc1 => ?_) (fun hc1 => ?_)
    · refine wr_skip ?_
      refine wr_seq ?_
      refine wr_region ?_
      refine wo_val (.agg (rAirspace a)) rfl (pv_load (ld_ptr hI rfl rfl rfl ti31 rfl)) ?_
      refine of_call [(.agg (rAirspace a))] rfl rfl rfl rfl ((cp_opening_Blocked a) _) (fun v _ => wu_pan Try.func5 hI) fun r2 _ => ?_
      refine wo_val (.tup [(.sl 1 (List.map (rI .i64) r2.1)), (.int .i64 r2.2)]) rfl pv_move ?_
      refine wo_val (.sl 1 (List.map (rI .i64) r2.1)) rfl (pv_ext rfl) ?_
      refine wo_val (.int .i64 r2.2) rfl (pv_ext rfl) ?_
      refine wo_val (.sl 1 (List.map (rI .i64) r2.1)) rfl pv_assign ?_
      refine wo_val (.int .i64 r2.2) rfl pv_assign ?_
      refine wo_nil ?_
      refine wr_seq ?_
      refine wr_region ?_
      refine wo_val (.agg (rAirspace a)) rfl (pv_load (ld_ptr hI rfl rfl rfl ti31 rfl)) ?_
      refine of_call [(.agg (rAirspace a))] rfl rfl rfl rfl ((cp_opening_Passable a) _) (fun v _ => wu_pan Try.func5 hI) fun r3 _ => ?_
      refine wo_val (.tup [(.sl 1 (List.map (rI .i64) r3.1)), (.int .i64 r3.2)]) rfl pv_move ?_
      refine wo_val (.sl 1 (List.map (rI .i64) r3.1)) rfl (pv_ext rfl) ?_
      refine wo_val (.int .i64 r3.2) rfl (pv_ext rfl) ?_
      refine wo_val (.sl 1 (List.map (rI .i64) r3.1)) rfl pv_assign ?_
      refine wo_val (.int .i64 r3.2) rfl pv_assign ?_
      refine wo_nil ?_
      refine wr_seq ?_
      refine wr_seq ?_
      refine wr_region ?_
      refine wo_val (.int .i64 r2.2) rfl pv_move ?_
      refine wo_val (.bool (r2.2 != 0)) rfl (pv_bin rfl rfl rfl) ?_
      refine wo_val (.bool (r2.2 != 0)) rfl pv_move ?_
      refine wo_meet 3 [(1, (.ptr (ix ids 0) g 0 0)), (3, (.sl 1 (List.map (rI .i64) r2.1))), (4, (.int .i64 r2.2)), (5, (.sl 1 (List.map (rI .i64) r3.1))), (6, (.int .i64 r3.2)), (34, (.bool ((r2.2 != 0) || (r3.2 != 0))))] ?_ fun hJ => wo_cases (r2.2 != 0) (fun hb1 => ?_) (fun hb1 => ?_)
      · refine wo_nil ?_
        refine wf_iteb rfl (fun hc2 => ?_) (fun hc2 => ?_)
        · refine wr_seq ?_
          refine wr_region ?_
          refine wo_val (.int .i64 r2.2) rfl pv_move ?_
          refine wo_val (.bool (r2.2 == 0)) rfl (pv_bin rfl rfl rfl) ?_
          refine wo_val (.bool (r2.2 == 0)) rfl pv_move ?_
          refine wo_meet 4 [(5, (.sl 1 (List.map (rI .i64) r3.1))), (6, (.int .i64 r3.2)), (41, (.bool ((r2.2 == 0) || ((r2.1.length : Int) == 0))))] ?_ fun hJ1 => wo_cases (r2.2 == 0) (fun hb3 => ?_) (fun hb3 => ?_)
          · refine wo_val (.bool ((r2.2 == 0) || ((r2.1.length : Int) == 0))) rfl pv_move ?_
            refine wo_meet 8 [(50, (.bool (((r2.2 == 0) || ((r2.1.length : Int) == 0)) && ((r3.2 == 0) || ((r3.1.length : Int) == 0)))))] ?_ fun hJ2 => wo_cases ((r2.2 == 0) || ((r2.1.length : Int) == 0)) (fun hb5 => ?_) (fun hb5 => ?_)
            · refine wo_val (.bool (((r2.2 == 0) || ((r2.1.length : Int) == 0)) && ((r3.2 == 0) || ((r3.1.length : Int) == 0)))) rfl pv_assign ?_
              refine wo_nil ?_
              exact wr_ret (a := (((r2.2 == 0) || ((r2.1.length : Int) == 0)) && ((r3.2 == 0) || ((r3.1.length : Int) == 0)))) (vs := [(.bool (((r2.2 == 0) || ((r2.1.length : Int) == 0)) && ((r3.2 == 0) || ((r3.1.length : Int) == 0))))]) Try.func5 hI rfl (.same _)
            · refine wo_valg (tj := 42) (.int .i64 r3.2) rfl (congrArg AV.bool hb5) rfl pv_move ?_
              refine wo_valg (tj := 42) (.bool (r3.2 == 0)) rfl (congrArg AV.bool hb5) rfl (pv_bin rfl rfl rfl) ?_
              refine wo_valg (tj := 42) (.bool (r3.2 == 0)) rfl (congrArg AV.bool hb5) rfl pv_move ?_
              refine wo_meet 4 [(42, (.bool ((r2.2 == 0) || ((r2.1.length : Int) == 0)))), (49, (.bool ((r3.2 == 0) || ((r3.1.length : Int) == 0))))] ?_ fun hJ3 => wo_cases (r3.2 == 0) (fun hb7 => ?_) (fun hb7 => ?_)
              · refine wo_val (.bool ((r3.2 == 0) || ((r3.1.length : Int) == 0))) rfl (pv_pick (t := true) (congrArg AV.bool hb5) rfl) ?_
                exact wo_is [(50, (.bool (((r2.2 == 0) || ((r2.1.length : Int) == 0)) && ((r3.2 == 0) || ((r3.1.length : Int) == 0)))))] (.cons (and_t hb5) .nil) hJ2
              · refine wo_not (tj := 45) (b := true) rfl (congrArg AV.bool hb7) rfl rfl ?_
                refine wo_not (tj := 45) (b := true) rfl (congrArg AV.bool hb7) rfl rfl ?_
                refine wo_not (tj := 45) (b := true) rfl (congrArg AV.bool hb7) rfl rfl ?_
                refine wo_valg (tj := 42) (.bool true) rfl (congrArg AV.bool hb5) rfl (pv_pick (t := true) (congrArg AV.bool hb7) rfl) ?_
                exact wo_is [(42, (.bool ((r2.2 == 0) || ((r2.1.length : Int) == 0)))), (49, (.bool ((r3.2 == 0) || ((r3.1.length : Int) == 0))))] (.cons rfl (.cons (or_t hb7) .nil)) hJ3
              · refine wo_valg (tj := 45) (.sl 1 (List.map (rI .i64) r3.1)) rfl (congrArg AV.bool hb7) rfl pv_move ?_
                refine wo_valg (tj := 45) (.int .i64 (r3.1.length : Int)) rfl (congrArg AV.bool hb7) rfl (pv_len (len_sl ti34)) ?_
                refine wo_valg (tj := 45) (.bool ((r3.1.length : Int) == 0)) rfl (congrArg AV.bool hb7) rfl (pv_bin rfl rfl rfl) ?_
                refine wo_valg (tj := 42) (.bool ((r3.1.length : Int) == 0)) rfl (congrArg AV.bool hb5) rfl (pv_pick (t := false) (congrArg AV.bool hb7) rfl) ?_
                exact wo_is [(42, (.bool ((r2.2 == 0) || ((r2.1.length : Int) == 0)))), (49, (.bool ((r3.2 == 0) || ((r3.1.length : Int) == 0))))] (.cons rfl (.cons (or_f hb7) .nil)) hJ3
            · refine wo_not (tj := 42) (b := false) rfl (congrArg AV.bool hb5) rfl rfl ?_
              refine wo_not (tj := 42) (b := false) rfl (congrArg AV.bool hb5) rfl rfl ?_
              refine wo_not (tj := 42) (b := false) rfl (congrArg AV.bool hb5) rfl rfl ?_
              refine wo_notu (tj := 45) rfl rfl rfl ?_
              refine wo_notu (tj := 45) rfl rfl rfl ?_
              refine wo_notu (tj := 45) rfl rfl rfl ?_
              refine wo_not (tj := 42) (b := false) rfl (congrArg AV.bool hb5) rfl rfl ?_
              refine wo_val (.bool false) rfl (pv_pick (t := false) (congrArg AV.bool hb5) rfl) ?_
              exact wo_is [(50, (.bool (((r2.2 == 0) || ((r2.1.length : Int) == 0)) && ((r3.2 == 0) || ((r3.1.length : Int) == 0)))))] (.cons (and_f hb5) .nil) hJ2
          · refine wo_not (tj := 37) (b := true) rfl (congrArg AV.bool hb3) rfl rfl ?_
            refine wo_not (tj := 37) (b := true) rfl (congrArg AV.bool hb3) rfl rfl ?_
            refine wo_not (tj := 37) (b := true) rfl (congrArg AV.bool hb3) rfl rfl ?_
            refine wo_val (.bool true) rfl (pv_pick (t := true) (congrArg AV.bool hb3) rfl) ?_
            exact wo_is [(5, (.sl 1 (List.map (rI .i64) r3.1))), (6, (.int .i64 r3.2)), (41, (.bool ((r2.2 == 0) || ((r2.1.length : Int) == 0))))] (.cons rfl (.cons rfl (.cons (or_t hb3) .nil))) hJ1
          · refine wo_valg (tj := 37) (.sl 1 (List.map (rI .i64) r2.1)) rfl (congrArg AV.bool hb3) rfl pv_move ?_
            refine wo_valg (tj := 37) (.int .i64 (r2.1.length : Int)) rfl (congrArg AV.bool hb3) rfl (pv_len (len_sl ti34)) ?_
            refine wo_valg (tj := 37) (.bool ((r2.1.length : Int) == 0)) rfl (congrArg AV.bool hb3) rfl (pv_bin rfl rfl rfl) ?_
            refine wo_val (.bool ((r2.1.length : Int) == 0)) rfl (pv_pick (t := false) (congrArg AV.bool hb3) rfl) ?_
            exact wo_is [(5, (.sl 1 (List.map (rI .i64) r3.1))), (6, (.int .i64 r3.2)), (41, (.bool ((r2.2 == 0) || ((r2.1.length : Int) == 0))))] (.cons rfl (.cons rfl (.cons (or_f hb3) .nil))) hJ1
        · refine wr_skip ?_
          refine wr_seq ?_
          refine wr_seq ?_
          refine wr_region ?_
          refine wo_val (.int .i64 0) rfl pv_assign ?_
          refine wo_nil ?_
          refine wr_block ?_
          refine wr_is [(1, (.ptr (ix ids 0) g 0 0)), (3, (.sl 1 (List.map (rI .i64) r2.1))), (5, (.sl 1 (List.map (rI .i64) r3.1))), (7, (.int .i64 0))] (.cons rfl (.cons rfl (.cons rfl (.cons rfl .nil)))) ?_
          refine wf_each' (P := Try.prog) a.Routes (fun j a1 => fun _ => law11_OpeningBlocked_b2 a r r2 r3 j a1) ((alt (fun _ => .ok true) (fun r => .ok r)) : (Unit ⊕ Bool) → R Bool)
            (fun j => fun _ => fun (fr : Nat → AV) (h : AHeap) => fr = frA [(1, (.ptr (ix ids 0) g 0 0)), (3, (.sl 1 (List.map (rI .i64) r2.1))), (5, (.sl 1 (List.map (rI .i64) r3.1))), (7, (.int .i64 (j : Int)))] ∧ h = hp h0 ids [(some (.rows g 8 [(rAirspace a)]))]) () ?_ ?_ ?_
          · exact ⟨rfl, rfl⟩
          · rintro j a1 ha1 W hW _ fr h ⟨rfl, rfl⟩
            refine wr_mod (m' := law11_OpeningBlocked_b2 a r r2 r3 j a1) rfl (wr_mod (law11_OpeningBlocked_b2.eq_1 _ _ _ _ _ _) ?_)
            refine wr_seq ?_
            refine wr_seq ?_
            refine wr_region ?_
            refine wo_val (.int .i64 (j : Int)) rfl pv_move ?_
            refine wo_val (.ptr (ix ids 0) g 0 4) rfl (pv_fa (fa_ptr (c := 0) (off := 4) (i := 4) ti31 rfl ti26 rfl)) ?_
            refine wo_val (.sl 7 (List.map rRoute a.Routes)) rfl (pv_load (ld_ptr hI rfl rfl rfl ti26 rfl)) ?_
            refine wo_val (.int .i64 (a.Routes.length : Int)) rfl (pv_len (len_sl ti26)) ?_
            refine wo_val (.bool (decide ((j : Int) < (a.Routes.length : Int)))) rfl (pv_bin rfl rfl rfl) ?_
            refine wo_nil ?_
            refine wr_lim (t := 53) (L := a.Routes) rfl fun hlim1 => ?_
            refine wr_condT rfl (Int.ofNat_lt.2 (lt_of_get ha1)) ?_
            refine wr_skip ?_
            refine wr_seq ?_
            refine wr_block ?_
            refine wr_seq ?_
            refine wr_region ?_
            refine wo_val (.agg (rAirspace a)) rfl (pv_load (ld_ptr hI rfl rfl rfl ti31 rfl)) ?_
            refine wo_val (.int .i64 (j : Int)) rfl pv_move ?_
            refine of_call [(.agg (rAirspace a)), (.int .i64 (j : Int))] rfl rfl rfl rfl ((cp_opening_Legs a (j : Int)) _) (fun v _ => wu_pan Try.func5 hI) fun r4 _ => ?_
            refine wo_val (.tup [(.sl 4 (List.map rLeg r4.1)), (.int .i64 r4.2)]) rfl pv_move ?_
            refine wo_val (.sl 4 (List.map rLeg r4.1)) rfl (pv_ext rfl) ?_
            refine wo_val (.int .i64 r4.2) rfl (pv_ext rfl) ?_
            refine wo_val (.sl 4 (List.map rLeg r4.1)) rfl pv_assign ?_
            refine wo_val (.int .i64 r4.2) rfl pv_assign ?_
            refine wo_nil ?_
            refine wr_seq ?_
            refine wr_seq ?_
            refine wr_region ?_
            refine wo_val (.int .i64 r4.2) rfl pv_move ?_
            refine wo_val (.bool (r4.2 != 0)) rfl (pv_bin rfl rfl rfl) ?_
            refine wo_val (.bool (r4.2 != 0)) rfl pv_move ?_
            refine wo_meet 11 [(1, (.ptr (ix ids 0) g 0 0)), (3, (.sl 1 (List.map (rI .i64) r2.1))), (5, (.sl 1 (List.map (rI .i64) r3.1))), (7, (.int .i64 (j : Int))), (8, (.sl 4 (List.map rLeg r4.1))), (77, (.bool ((r4.2 != 0) || ((r4.1.length : Int) != (a1.Segments.length : Int)))))] ?_ fun hJ4 => wo_cases (r4.2 != 0) (fun hb9 => ?_) (fun hb9 => ?_)
            · refine wo_nil ?_
              refine wf_iteb rfl (fun hc3 => ?_) (fun hc3 => ?_)
              · refine wr_seq ?_
                refine wr_region ?_
                refine wo_val (.bool false) rfl pv_assign ?_
                refine wo_nil ?_
                refine wx_each ?_
                refine w_altr ?_
                exact wr_ret (a := false) (vs := [(.bool false)]) Try.func5 hI rfl (.same _)
              · refine wr_skip ?_
                refine wr_seq ?_
                refine wr_region ?_
                refine wo_val (.bool false) rfl pv_assign ?_
                refine wo_nil ?_
                refine wr_seq ?_
                refine wr_seq ?_
                refine wr_region ?_
                refine wo_val (.int .i64 0) rfl pv_assign ?_
                refine wo_nil ?_
                refine wr_block ?_
                refine wr_is [(1, (.ptr (ix ids 0) g 0 0)), (3, (.sl 1 (List.map (rI .i64) r2.1))), (5, (.sl 1 (List.map (rI .i64) r3.1))), (7, (.int .i64 (j : Int))), (8, (.sl 4 (List.map rLeg r4.1))), (10, (.bool false)), (11, (.int .i64 0))] (.cons rfl (.cons rfl (.cons rfl (.cons rfl (.cons rfl (.cons rfl (.cons rfl .nil))))))) ?_
                refine wf_each' (P := Try.prog) r4.1 (fun j1 a2 => fun x1 => law11_OpeningBlocked_b1 a r3 a1 j1 a2 x1) ((alt (fun x1 => (law11_has r2.1 (j : Int)).bind fun r8 =>
  if (x1 == r8) then
(.ok (.inl ()))
else
(.ok (.inr (false)))) (fun r => .ok (.inr (r)))) : (Bool ⊕ Bool) → R (Unit ⊕ Bool))
                  (fun j1 => fun x1 => fun (fr : Nat → AV) (h : AHeap) => fr = frA [(1, (.ptr (ix ids 0) g 0 0)), (3, (.sl 1 (List.map (rI .i64) r2.1))), (5, (.sl 1 (List.map (rI .i64) r3.1))), (7, (.int .i64 (j : Int))), (8, (.sl 4 (List.map rLeg r4.1))), (10, (.bool x1)), (11, (.int .i64 (j1 : Int)))] ∧ h = hp h0 ids [(some (.rows g 8 [(rAirspace a)]))]) false ?_ ?_ ?_
                · exact ⟨rfl, rfl⟩
                · rintro j1 a2 ha2 W hW1 x1 fr h ⟨rfl, rfl⟩
                  refine wr_mod (m' := law11_OpeningBlocked_b1 a r3 a1 j1 a2 x1) rfl (wr_mod (law11_OpeningBlocked_b1.eq_1 _ _ _ _ _ _) ?_)
                  refine wr_seq ?_
                  refine wr_seq ?_
                  refine wr_region ?_
                  refine wo_val (.int .i64 (j1 : Int)) rfl pv_move ?_
                  refine wo_val (.sl 4 (List.map rLeg r4.1)) rfl pv_move ?_
                  refine wo_val (.int .i64 (r4.1.length : Int)) rfl (pv_len (len_sl ti39)) ?_
                  refine wo_val (.bool (decide ((j1 : Int) < (r4.1.length : Int)))) rfl (pv_bin rfl rfl rfl) ?_
                  refine wo_nil ?_
                  refine wr_lim (t := 8) (L := r4.1) rfl fun hlim2 => ?_
                  refine wr_condT rfl (Int.ofNat_lt.2 (lt_of_get ha2)) ?_
                  refine wr_skip ?_
                  refine wr_seq ?_
                  refine wr_block ?_
                  refine wr_seq ?_
                  refine wr_draw hmix [[], [], [], [1, 2], [1, 2, 3], [1, 2, 3, 4], [0, 1, 2, 3, 4, 5], [0, 1, 2, 3, 4, 5, 6], [0, 1, 2, 3, 4, 5, 6, 7], [0, 1, 2, 3, 4, 5, 6, 7], [0, 1, 2, 3, 4, 5, 6, 6, 7, 8, 8], [0, 1, 2, 3, 4, 5, 6, 7, 8, 9, 9, 10, 10]] [(false, 0), (false, 1), (false, 2), (false, 3), (false, 4), (false, 5), (true, 6), (false, 7), (false, 8), (false, 9), (false, 10), (false, 11)] (by kernel_rfl) ?_
                  refine wp_val (.agg (rAirspace a)) rfl rfl (pv_load (ld_ptr hI rfl rfl rfl ti31 rfl)) ?_
                  refine wp_val (.sl 4 (List.map rLeg r4.1)) rfl rfl pv_move ?_
                  refine wp_val (.int .i64 (j1 : Int)) rfl rfl pv_move ?_
                  refine wp_val (.cp (rLeg a2) 0) rfl rfl (pv_ixa (ixa_nat ti39 ti52 rfl ha2)) ?_
                  refine wp_val (.cp (rLeg a2) 0) rfl rfl (pv_fa (fa_cp (c := 0) (off := 0) (i := 0) ti52 rfl ti3 rfl)) ?_
                  refine wp_val (.int .i64 a2.Segment) rfl rfl (pv_load (ld_cp ti3 rfl)) ?_
                  refine wp_call [(.agg (rAirspace a)), (.int .i64 a2.Segment)] rfl rfl rfl rfl rfl ((cp_opening_Minutes a a2.Segment) _) (fun v _ _ _ => wu_pan Try.func5 hI) (pend_yes rfl (pend_yes rfl (pend_yes rfl (pend_yes rfl (pend_yes rfl (pend_yes rfl pend_nil)))))) fun r5 _ => ?_
                  refine wp_val (.tup [(.sl 2 (List.map rSpan r5.1)), (.int .i64 r5.2)]) rfl rfl pv_move ?_
                  refine wp_val (.sl 2 (List.map rSpan r5.1)) rfl rfl (pv_ext rfl) ?_
                  refine wp_val (.int .i64 r5.2) rfl rfl (pv_ext rfl) ?_
                  refine wp_val (.sl 2 (List.map rSpan r5.1)) rfl rfl pv_assign ?_
                  refine wp_val (.int .i64 r5.2) rfl rfl pv_assign ?_
                  refine wp_nil ?_
                  refine wr_seq ?_
                  refine wr_seq ?_
                  refine wf_join (fun x3 => law11_OpeningBlocked_j1 x1 r5 x3) (fun x3 => fun (fr : Nat → AV) (h : AHeap) => fr = frA [(1, (.ptr (ix ids 0) g 0 0)), (3, (.sl 1 (List.map (rI .i64) r2.1))), (5, (.sl 1 (List.map (rI .i64) r3.1))), (7, (.int .i64 (j : Int))), (8, (.sl 4 (List.map rLeg r4.1))), (10, (.bool x1)), (11, (.int .i64 (j1 : Int))), (12, (.sl 2 (List.map rSpan r5.1))), (137, (.bool x3))] ∧ h = hp h0 ids [(some (.rows g 8 [(rAirspace a)]))]) ?_ fun hJ6 => ?_
                  · rintro x3 fr h ⟨rfl, rfl⟩
                    refine wr_mod (law11_OpeningBlocked_j1.eq_1 _ _ _) ?_
                    refine wf_iteb rfl (fun hc4 => ?_) (fun hc4 => ?_)
                    · refine wr_seq ?_
                      refine wr_region ?_
                      refine wo_val (.bool false) rfl pv_assign ?_
                      refine wo_nil ?_
                      refine wx_each ?_
                      refine w_altr ?_
                      refine wx_each ?_
                      refine w_altr ?_
                      exact wr_ret (a := false) (vs := [(.bool false)]) Try.func5 hI rfl (.same _)
                    · refine wr_skip ?_
                      refine wr_region ?_
                      refine wo_val (.bool x1) rfl pv_move ?_
                      refine wo_val (.bool x1) rfl pv_move ?_
                      refine wo_meet 4 [(1, (.ptr (ix ids 0) g 0 0)), (3, (.sl 1 (List.map (rI .i64) r2.1))), (5, (.sl 1 (List.map (rI .i64) r3.1))), (7, (.int .i64 (j : Int))), (8, (.sl 4 (List.map rLeg r4.1))), (11, (.int .i64 (j1 : Int))), (143, (.bool (x1 || ((r5.1.length : Int) == 0))))] ?_ fun hJ5 => wo_cases x1 (fun hb15 => ?_) (fun hb15 => ?_)
                      · refine wo_val (.bool (x1 || ((r5.1.length : Int) == 0))) rfl pv_assign ?_
                        refine wo_nil ?_
                        refine wr_inBlock ?_
                        refine wr_region ?_
                        refine wo_val (.int .i64 (j1 : Int)) rfl pv_move ?_
                        refine wo_val (.int .i64 (IntKind.wrap .i64 ((j1 : Int) + 1))) rfl (pv_bin rfl rfl rfl) ?_
                        refine wo_val (.int .i64 (IntKind.wrap .i64 ((j1 : Int) + 1))) rfl pv_assign ?_
                        refine wo_nil ?_
                        refine wr_is [(1, (.ptr (ix ids 0) g 0 0)), (3, (.sl 1 (List.map (rI .i64) r2.1))), (5, (.sl 1 (List.map (rI .i64) r3.1))), (7, (.int .i64 (j : Int))), (8, (.sl 4 (List.map rLeg r4.1))), (10, (.bool (x1 || ((r5.1.length : Int) == 0)))), (11, (.int .i64 ((j1 + 1 : Nat) : Int)))] (.cons rfl (.cons rfl (.cons rfl (.cons rfl (.cons rfl (.cons rfl (.cons (inc_ok (lt_of_get ha2) hlim2) .nil))))))) ?_
                        refine wb_each ?_
                        refine hW1 (x1 || ((r5.1.length : Int) == 0)) _ _ ?_
                        exact ⟨rfl, rfl⟩
                      · refine wo_not (tj := 139) (b := true) rfl (congrArg AV.bool hb15) rfl rfl ?_
                        refine wo_not (tj := 139) (b := true) rfl (congrArg AV.bool hb15) rfl rfl ?_
                        refine wo_not (tj := 139) (b := true) rfl (congrArg AV.bool hb15) rfl rfl ?_
                        refine wo_val (.bool true) rfl (pv_pick (t := true) (congrArg AV.bool hb15) rfl) ?_
                        exact wo_is [(1, (.ptr (ix ids 0) g 0 0)), (3, (.sl 1 (List.map (rI .i64) r2.1))), (5, (.sl 1 (List.map (rI .i64) r3.1))), (7, (.int .i64 (j : Int))), (8, (.sl 4 (List.map rLeg r4.1))), (11, (.int .i64 (j1 : Int))), (143, (.bool (x1 || ((r5.1.length : Int) == 0))))] (.cons rfl (.cons rfl (.cons rfl (.cons rfl (.cons rfl (.cons rfl (.cons (or_t hb15) .nil))))))) hJ5
                      · refine wo_valg (tj := 139) (.sl 2 (List.map rSpan r5.1)) rfl (congrArg AV.bool hb15) rfl pv_move ?_
                        refine wo_valg (tj := 139) (.int .i64 (r5.1.length : Int)) rfl (congrArg AV.bool hb15) rfl (pv_len (len_sl ti35)) ?_
                        refine wo_valg (tj := 139) (.bool ((r5.1.length : Int) == 0)) rfl (congrArg AV.bool hb15) rfl (pv_bin rfl rfl rfl) ?_
                        refine wo_val (.bool ((r5.1.length : Int) == 0)) rfl (pv_pick (t := false) (congrArg AV.bool hb15) rfl) ?_
                        exact wo_is [(1, (.ptr (ix ids 0) g 0 0)), (3, (.sl 1 (List.map (rI .i64) r2.1))), (5, (.sl 1 (List.map (rI .i64) r3.1))), (7, (.int .i64 (j : Int))), (8, (.sl 4 (List.map rLeg r4.1))), (11, (.int .i64 (j1 : Int))), (143, (.bool (x1 || ((r5.1.length : Int) == 0))))] (.cons rfl (.cons rfl (.cons rfl (.cons rfl (.cons rfl (.cons rfl (.cons (or_f hb15) .nil))))))) hJ5
                  · refine wr_draw hmix [[], [0], [0, 1], [0, 1, 2], [0, 1, 2], [0, 1, 2, 3, 4], [0, 1, 2, 3, 4, 5], [0, 1, 2, 3, 4, 5, 6], [0, 1, 2], [0, 1, 2, 8], [0, 1, 2], [0, 1, 2, 8, 9, 10], [0, 1, 2, 8, 9, 10, 11], [0, 1, 2, 8, 9, 10, 11, 12], [0, 1, 2], [0, 1, 2, 8, 9, 10, 11, 12, 13, 14], [0, 1, 2, 8, 9, 10, 11, 12, 13, 14, 15], [0, 1, 2, 3, 4, 5, 6, 7, 8, 9, 10, 11, 12, 13, 14, 15, 16], [0, 1, 2, 3, 4, 5, 6, 7, 8, 9, 10, 11, 12, 13, 14, 15, 16, 17], [0, 1, 2, 3, 4, 5, 6, 7, 8, 9, 10, 11, 12, 13, 14, 15, 16, 17, 18], [0, 1, 2, 3, 4, 5, 6, 7, 8, 9, 10, 11, 12, 13, 14, 15, 16, 17, 18, 19], [0, 1, 2, 3, 4, 5, 6, 7, 8, 9, 10, 11, 12, 13, 14, 15, 16, 17, 18, 19], [0, 1, 2, 3, 4, 5, 6, 7, 8, 9, 10, 11, 12, 13, 14, 15, 16, 17, 18, 19], [0, 1, 2, 3, 4, 5, 6, 7, 8, 9, 10, 11, 12, 13, 14, 15, 16, 17, 18, 19, 21, 22], [0, 1, 2, 3, 4, 5, 6, 7, 8, 9, 10, 11, 12, 13, 14, 15, 16, 17, 18, 19, 21, 22, 23], [0, 1, 2, 3, 4, 5, 6, 7, 8, 9, 10, 11, 12, 13, 14, 15, 16, 17, 18, 19, 21, 22, 23, 24], [0, 1, 2, 3, 4, 5, 6, 7, 8, 9, 10, 11, 12, 13, 14, 15, 16, 17, 18, 19, 20, 21, 22, 23, 24, 25], [0, 1, 2, 3, 4, 5, 6, 7, 8, 9, 10, 11, 12, 13, 14, 15, 16, 17, 18, 19, 20, 21, 22, 23, 24, 25, 26], [0, 1, 2, 3, 4, 5, 6, 7, 8, 9, 10, 11, 12, 13, 14, 15, 16, 17, 18, 19, 20, 21, 22, 23, 24, 25, 26, 27], [0, 1, 2, 3, 4, 5, 6, 7, 8, 9, 10, 11, 12, 13, 14, 15, 16, 17, 18, 19, 20, 21, 22, 23, 24, 25, 26, 27, 28], [0, 1, 2, 3, 4, 5, 6, 7, 8, 9, 10, 11, 12, 13, 14, 15, 16, 17, 18, 19, 20, 21, 22, 23, 24, 25, 26, 27, 28, 29], [0, 1, 2, 3, 4, 5, 6, 7, 8, 9, 10, 11, 12, 13, 14, 15, 16, 17, 18, 19, 20, 21, 22, 23, 24, 25, 26, 27, 28, 29, 30], [0, 1, 2, 3, 4, 5, 6, 7, 8, 9, 10, 11, 12, 13, 14, 15, 16, 17, 18, 19, 20, 21, 22, 23, 24, 25, 26, 27, 28, 29, 30, 31], [0, 1, 2, 3, 4, 5, 6, 7, 8, 9, 10, 11, 12, 13, 14, 15, 16, 17, 18, 19, 20, 21, 22, 23, 24, 25, 26, 27, 28, 29, 30, 31, 32], [0, 1, 2, 3, 4, 5, 6, 7, 8, 9, 10, 11, 12, 13, 14, 15, 16, 17, 18, 19, 20, 21, 22, 23, 24, 25, 26, 27, 28, 29, 30, 31, 32, 33], [0, 1, 2, 3, 4, 5, 6, 7, 8, 9, 10, 11, 12, 13, 14, 15, 16, 17, 18, 19, 20, 21, 22, 23, 24, 25, 26, 27, 28, 29, 30, 31, 32, 33], [0, 1, 2, 3, 4, 5, 6, 7, 8, 9, 10, 11, 12, 13, 14, 15, 16, 17, 18, 19, 20, 21, 22, 23, 24, 25, 26, 27, 28, 29, 30, 31, 32, 33], [0, 1, 2, 3, 4, 5, 6, 7, 8, 9, 10, 11, 12, 13, 14, 15, 16, 17, 18, 19, 20, 21, 22, 23, 24, 25, 26, 27, 28, 29, 30, 31, 32, 33, 35, 36], [0, 1, 2, 3, 4, 5, 6, 7, 8, 9, 10, 11, 12, 13, 14, 15, 16, 17, 18, 19, 20, 21, 22, 23, 24, 25, 26, 27, 28, 29, 30, 31, 32, 33, 35, 36, 37], [0, 1, 2, 3, 4, 5, 6, 7, 8, 9, 10, 11, 12, 13, 14, 15, 16, 17, 18, 19, 20, 21, 22, 23, 24, 25, 26, 27, 28, 29, 30, 31, 32, 33, 35, 36, 37, 38], [0, 1, 2, 3, 4, 5, 6, 7, 8, 9, 10, 11, 12, 13, 14, 15, 16, 17, 18, 19, 20, 21, 22, 23, 24, 25, 26, 27, 28, 29, 30, 31, 32, 33, 34, 35, 36, 37, 38, 39], [0, 1, 2, 3, 4, 5, 6, 7, 8, 9, 10, 11, 12, 13, 14, 15, 16, 17, 18, 19, 20, 21, 22, 23, 24, 25, 26, 27, 28, 29, 30, 31, 32, 33, 34, 35, 36, 37, 38, 39, 40], [0, 1, 2, 3, 4, 5, 6, 7, 8, 9, 10, 11, 12, 13, 14, 15, 16, 17, 18, 19, 20, 21, 22, 23, 24, 25, 26, 27, 28, 29, 30, 31, 32, 33, 34, 35, 36, 37, 38, 39, 40, 41], [0, 1, 2, 3, 4, 5, 6, 7, 8, 9, 10, 11, 12, 13, 14, 15, 16, 17, 18, 19, 20, 21, 22, 23, 24, 25, 26, 27, 28, 29, 30, 31, 32, 33, 34, 35, 36, 37, 38, 39, 40, 41, 42]] [(false, 0), (false, 1), (false, 2), (false, 3), (false, 4), (false, 5), (false, 6), (false, 7), (false, 8), (false, 9), (false, 10), (false, 11), (false, 12), (false, 13), (false, 14), (false, 15), (false, 16), (false, 17), (false, 18), (false, 19), (false, 20), (false, 21), (false, 22), (false, 23), (false, 24), (false, 25), (true, 26), (false, 27), (false, 28), (false, 29), (false, 30), (false, 31), (false, 32), (false, 33), (false, 34), (false, 35), (false, 36), (false, 37), (false, 38), (false, 39), (true, 40), (false, 41), (false, 42), (false, 43)] (by kernel_rfl) ?_
                    refine wp_val (.int .i64 r5.2) rfl rfl pv_move ?_
                    refine wp_val (.bool (r5.2 != 0)) rfl rfl (pv_bin rfl rfl rfl) ?_
                    refine wp_val (.bool (r5.2 != 0)) rfl rfl pv_move ?_
                    refine op_iteb (fun hb10 => ?_) (fun hb10 => ?_)
                    · refine wp_not (tj := 96) (b := true) rfl rfl (congrArg AV.bool hb10) rfl rfl ?_
                      refine wp_not (tj := 96) (b := true) rfl rfl (congrArg AV.bool hb10) rfl rfl ?_
                      refine wp_not (tj := 96) (b := true) rfl rfl (congrArg AV.bool hb10) rfl rfl ?_
                      refine wp_not (tj := 96) (b := true) rfl rfl (congrArg AV.bool hb10) rfl rfl ?_
                      refine wp_not (tj := 96) (b := true) rfl rfl (congrArg AV.bool hb10) rfl rfl ?_
                      refine wp_not (tj := 96) (b := true) rfl rfl (congrArg AV.bool hb10) rfl rfl ?_
                      refine wp_not (tj := 96) (b := true) rfl rfl (congrArg AV.bool hb10) rfl rfl ?_
                      refine wp_not (tj := 96) (b := true) rfl rfl (congrArg AV.bool hb10) rfl rfl ?_
                      refine wp_not (tj := 96) (b := true) rfl rfl (congrArg AV.bool hb10) rfl rfl ?_
                      refine wp_not (tj := 96) (b := true) rfl rfl (congrArg AV.bool hb10) rfl rfl ?_
                      refine wp_not (tj := 96) (b := true) rfl rfl (congrArg AV.bool hb10) rfl rfl ?_
                      refine wp_not (tj := 96) (b := true) rfl rfl (congrArg AV.bool hb10) rfl rfl ?_
                      refine wp_not (tj := 96) (b := true) rfl rfl (congrArg AV.bool hb10) rfl rfl ?_
                      refine wp_not (tj := 96) (b := true) rfl rfl (congrArg AV.bool hb10) rfl rfl ?_
                      refine wp_not (tj := 96) (b := true) rfl rfl (congrArg AV.bool hb10) rfl rfl ?_
                      refine wp_val (.bool true) rfl rfl (pv_pick (t := true) (congrArg AV.bool hb10) rfl) ?_
                      refine wp_val (.bool true) rfl rfl pv_move ?_
                      refine wp_not (tj := 113) (b := true) rfl rfl rfl rfl rfl ?_
                      refine wp_not (tj := 113) (b := true) rfl rfl rfl rfl rfl ?_
                      refine wp_not (tj := 113) (b := true) rfl rfl rfl rfl rfl ?_
                      refine wp_not (tj := 113) (b := true) rfl rfl rfl rfl rfl ?_
                      refine wp_not (tj := 113) (b := true) rfl rfl rfl rfl rfl ?_
                      refine wp_not (tj := 113) (b := true) rfl rfl rfl rfl rfl ?_
                      refine wp_notE (tj := 113) (b := true) rfl rfl rfl rfl rfl ?_
                      refine wp_not (tj := 113) (b := true) rfl rfl rfl rfl rfl ?_
                      refine wp_val (.bool true) rfl rfl (pv_pick (t := true) rfl rfl) ?_
                      refine wp_val (.bool true) rfl rfl pv_move ?_
                      refine wp_not (tj := 123) (b := true) rfl rfl rfl rfl rfl ?_
                      refine wp_not (tj := 123) (b := true) rfl rfl rfl rfl rfl ?_
                      refine wp_not (tj := 123) (b := true) rfl rfl rfl rfl rfl ?_
                      refine wp_not (tj := 123) (b := true) rfl rfl rfl rfl rfl ?_
                      refine wp_notu (tj := 127) rfl rfl rfl rfl ?_
                      refine wp_notu (tj := 127) rfl rfl rfl rfl ?_
                      refine wp_notu (tj := 127) rfl rfl rfl rfl ?_
                      refine wp_notu (tj := 127) rfl rfl rfl rfl ?_
                      refine wp_notu (tj := 127) rfl rfl rfl rfl ?_
                      refine wp_notu (tj := 127) rfl rfl rfl rfl ?_
                      refine wp_notuE (tj := 127) rfl rfl rfl rfl ?_
                      refine wp_notu (tj := 127) rfl rfl rfl rfl ?_
                      refine wp_not (tj := 123) (b := true) rfl rfl rfl rfl rfl ?_
                      refine wp_val (.bool true) rfl rfl (pv_pick (t := true) rfl rfl) ?_
                      refine wp_nil ?_
                      refine wr_is [(1, (.ptr (ix ids 0) g 0 0)), (3, (.sl 1 (List.map (rI .i64) r2.1))), (5, (.sl 1 (List.map (rI .i64) r3.1))), (7, (.int .i64 (j : Int))), (8, (.sl 4 (List.map rLeg r4.1))), (10, (.bool x1)), (11, (.int .i64 (j1 : Int))), (12, (.sl 2 (List.map rSpan r5.1))), (137, (.bool true))] (.cons rfl (.cons rfl (.cons rfl (.cons rfl (.cons rfl (.cons rfl (.cons rfl (.cons rfl (.cons rfl .nil))))))))) ?_
                      refine hJ6 true _ _ ?_
                      exact ⟨rfl, rfl⟩
                    · refine wp_valg (tj := 96) (.sl 4 (List.map rLeg r4.1)) rfl rfl (congrArg AV.bool hb10) rfl pv_move ?_
                      refine wp_valg (tj := 96) (.int .i64 (j1 : Int)) rfl rfl (congrArg AV.bool hb10) rfl pv_move ?_
                      refine wp_valg (tj := 96) (.cp (rLeg a2) 0) rfl rfl (congrArg AV.bool hb10) rfl (pv_ixa (ixa_nat ti39 ti52 rfl ha2)) ?_
                      refine wp_valg (tj := 96) (.cp (rLeg a2) 0) rfl rfl (congrArg AV.bool hb10) rfl (pv_fa (fa_cp (c := 0) (off := 0) (i := 0) ti52 rfl ti3 rfl)) ?_
                      refine wp_valg (tj := 96) (.int .i64 a2.Segment) rfl rfl (congrArg AV.bool hb10) rfl (pv_load (ld_cp ti3 rfl)) ?_
                      refine wp_valg (tj := 96) (.ptr (ix ids 0) g 0 4) rfl rfl (congrArg AV.bool hb10) rfl (pv_fa (fa_ptr (c := 0) (off := 4) (i := 4) ti31 rfl ti26 rfl)) ?_
                      refine wp_valg (tj := 96) (.sl 7 (List.map rRoute a.Routes)) rfl rfl (congrArg AV.bool hb10) rfl (pv_load (ld_ptr hI rfl rfl rfl ti26 rfl)) ?_
                      refine wp_valg (tj := 96) (.int .i64 (j : Int)) rfl rfl (congrArg AV.bool hb10) rfl pv_move ?_
                      refine wp_valg (tj := 96) (.cp (rRoute a1) 0) rfl rfl (congrArg AV.bool hb10) rfl (pv_ixa (ixa_nat ti26 ti50 rfl ha1)) ?_
                      refine wp_valg (tj := 96) (.cp (rRoute a1) 6) rfl rfl (congrArg AV.bool hb10) rfl (pv_fa (fa_cp (c := 0) (off := 6) (i := 6) ti50 rfl ti34 rfl)) ?_
                      refine wp_valg (tj := 96) (.sl 1 (List.map (rI .i64) a1.Segments)) rfl rfl (congrArg AV.bool hb10) rfl (pv_load (ld_cp ti34 rfl)) ?_
                      refine wp_valg (tj := 96) (.int .i64 (j1 : Int)) rfl rfl (congrArg AV.bool hb10) rfl pv_move ?_
                      refine op_idx fun a3 hz hx1 => ?_
                      refine wp_valg (tj := 96) (.cp [(.int .i64 a3)] 0) rfl rfl (congrArg AV.bool hb10) rfl (pv_ixa (ixa_sl ti34 ti3 rfl hz hx1)) ?_
                      refine wp_valg (tj := 96) (.int .i64 a3) rfl rfl (congrArg AV.bool hb10) rfl (pv_load (ld_cp ti3 rfl)) ?_
                      refine wp_valg (tj := 96) (.bool (a2.Segment != a3)) rfl rfl (congrArg AV.bool hb10) rfl (pv_bin rfl rfl rfl) ?_
                      refine wp_val (.bool (a2.Segment != a3)) rfl rfl (pv_pick (t := false) (congrArg AV.bool hb10) rfl) ?_
                      refine wp_val (.bool (a2.Segment != a3)) rfl rfl pv_move ?_
                      refine op_iteb (fun hb11 => ?_) (fun hb11 => ?_)
                      · refine wp_not (tj := 113) (b := true) rfl rfl (congrArg AV.bool hb11) rfl rfl ?_
                        refine wp_not (tj := 113) (b := true) rfl rfl (congrArg AV.bool hb11) rfl rfl ?_
                        refine wp_not (tj := 113) (b := true) rfl rfl (congrArg AV.bool hb11) rfl rfl ?_
                        refine wp_not (tj := 113) (b := true) rfl rfl (congrArg AV.bool hb11) rfl rfl ?_
                        refine wp_not (tj := 113) (b := true) rfl rfl (congrArg AV.bool hb11) rfl rfl ?_
                        refine wp_not (tj := 113) (b := true) rfl rfl (congrArg AV.bool hb11) rfl rfl ?_
                        refine wp_notE (tj := 113) (b := true) rfl rfl (congrArg AV.bool hb11) rfl rfl ?_
                        refine wp_not (tj := 113) (b := true) rfl rfl (congrArg AV.bool hb11) rfl rfl ?_
                        refine wp_val (.bool true) rfl rfl (pv_pick (t := true) (congrArg AV.bool hb11) rfl) ?_
                        refine wp_val (.bool true) rfl rfl pv_move ?_
                        refine wp_not (tj := 123) (b := true) rfl rfl rfl rfl rfl ?_
                        refine wp_not (tj := 123) (b := true) rfl rfl rfl rfl rfl ?_
                        refine wp_not (tj := 123) (b := true) rfl rfl rfl rfl rfl ?_
                        refine wp_not (tj := 123) (b := true) rfl rfl rfl rfl rfl ?_
                        refine wp_notu (tj := 127) rfl rfl rfl rfl ?_
                        refine wp_notu (tj := 127) rfl rfl rfl rfl ?_
                        refine wp_notu (tj := 127) rfl rfl rfl rfl ?_
                        refine wp_notu (tj := 127) rfl rfl rfl rfl ?_
                        refine wp_notu (tj := 127) rfl rfl rfl rfl ?_
                        refine wp_notu (tj := 127) rfl rfl rfl rfl ?_
                        refine wp_notuE (tj := 127) rfl rfl rfl rfl ?_
                        refine wp_notu (tj := 127) rfl rfl rfl rfl ?_
                        refine wp_not (tj := 123) (b := true) rfl rfl rfl rfl rfl ?_
                        refine wp_val (.bool true) rfl rfl (pv_pick (t := true) rfl rfl) ?_
                        refine wp_nil ?_
                        refine wr_is [(1, (.ptr (ix ids 0) g 0 0)), (3, (.sl 1 (List.map (rI .i64) r2.1))), (5, (.sl 1 (List.map (rI .i64) r3.1))), (7, (.int .i64 (j : Int))), (8, (.sl 4 (List.map rLeg r4.1))), (10, (.bool x1)), (11, (.int .i64 (j1 : Int))), (12, (.sl 2 (List.map rSpan r5.1))), (137, (.bool true))] (.cons rfl (.cons rfl (.cons rfl (.cons rfl (.cons rfl (.cons rfl (.cons rfl (.cons rfl (.cons rfl .nil))))))))) ?_
                        refine hJ6 true _ _ ?_
                        exact ⟨rfl, rfl⟩
                      · refine wp_valg (tj := 113) (.sl 2 (List.map rSpan r5.1)) rfl rfl (congrArg AV.bool hb11) rfl pv_move ?_
                        refine wp_valg (tj := 113) (.sl 4 (List.map rLeg r4.1)) rfl rfl (congrArg AV.bool hb11) rfl pv_move ?_
                        refine wp_valg (tj := 113) (.int .i64 (j1 : Int)) rfl rfl (congrArg AV.bool hb11) rfl pv_move ?_
                        refine wp_valg (tj := 113) (.cp (rLeg a2) 0) rfl rfl (congrArg AV.bool hb11) rfl (pv_ixa (ixa_nat ti39 ti52 rfl ha2)) ?_
                        refine wp_valg (tj := 113) (.cp (rLeg a2) 3) rfl rfl (congrArg AV.bool hb11) rfl (pv_fa (fa_cp (c := 0) (off := 3) (i := 3) ti52 rfl ti35 rfl)) ?_
                        refine wp_valg (tj := 113) (.sl 2 (List.map rSpan a2.Minutes)) rfl rfl (congrArg AV.bool hb11) rfl (pv_load (ld_cp ti35 rfl)) ?_
                        refine wp_call [(.sl 2 (List.map rSpan r5.1)), (.sl 2 (List.map rSpan a2.Minutes))] rfl (wanted_yes (tj := 113) rfl (congrArg AV.bool hb11)) rfl rfl rfl ((cp_ref11_SameSpans r5.1 a2.Minutes) _) (fun v _ _ _ => wu_pan Try.func5 hI) (pend_yes rfl (pend_yes rfl (pend_yes rfl (pend_yes rfl (pend_yes rfl (pend_yes rfl (pend_yes rfl (pend_yes rfl (pend_yes rfl (pend_yes rfl (pend_yes rfl (pend_yes rfl (pend_yes rfl (pend_yes rfl (pend_yes rfl (pend_yes rfl (pend_yes rfl (pend_yes rfl (pend_yes rfl (pend_yes rfl (pend_yes rfl (pend_yes rfl (pend_yes rfl (pend_yes rfl (pend_yes rfl (pend_yes rfl pend_nil)))))))))))))))))))))))))) fun r6 _ => ?_
                        refine wp_valg (tj := 113) (.bool (!r6)) rfl rfl (congrArg AV.bool hb11) rfl (pv_un rfl) ?_
                        refine wp_val (.bool (!r6)) rfl rfl (pv_pick (t := false) (congrArg AV.bool hb11) rfl) ?_
                        refine wp_val (.bool (!r6)) rfl rfl pv_move ?_
                        refine op_iteb (fun hb12 => ?_) (fun hb12 => ?_)
                        · refine wp_not (tj := 123) (b := true) rfl rfl (congrArg AV.bool hb12) rfl rfl ?_
                          refine wp_not (tj := 123) (b := true) rfl rfl (congrArg AV.bool hb12) rfl rfl ?_
                          refine wp_not (tj := 123) (b := true) rfl rfl (congrArg AV.bool hb12) rfl rfl ?_
                          refine wp_not (tj := 123) (b := true) rfl rfl (congrArg AV.bool hb12) rfl rfl ?_
                          refine wp_notu (tj := 127) rfl rfl rfl rfl ?_
                          refine wp_notu (tj := 127) rfl rfl rfl rfl ?_
                          refine wp_notu (tj := 127) rfl rfl rfl rfl ?_
                          refine wp_notu (tj := 127) rfl rfl rfl rfl ?_
                          refine wp_notu (tj := 127) rfl rfl rfl rfl ?_
                          refine wp_notu (tj := 127) rfl rfl rfl rfl ?_
                          refine wp_notuE (tj := 127) rfl rfl rfl rfl ?_
                          refine wp_notu (tj := 127) rfl rfl rfl rfl ?_
                          refine wp_not (tj := 123) (b := true) rfl rfl (congrArg AV.bool hb12) rfl rfl ?_
                          refine wp_val (.bool true) rfl rfl (pv_pick (t := true) (congrArg AV.bool hb12) rfl) ?_
                          refine wp_nil ?_
                          refine wr_is [(1, (.ptr (ix ids 0) g 0 0)), (3, (.sl 1 (List.map (rI .i64) r2.1))), (5, (.sl 1 (List.map (rI .i64) r3.1))), (7, (.int .i64 (j : Int))), (8, (.sl 4 (List.map rLeg r4.1))), (10, (.bool x1)), (11, (.int .i64 (j1 : Int))), (12, (.sl 2 (List.map rSpan r5.1))), (137, (.bool true))] (.cons rfl (.cons rfl (.cons rfl (.cons rfl (.cons rfl (.cons rfl (.cons rfl (.cons rfl (.cons rfl .nil))))))))) ?_
                          refine hJ6 true _ _ ?_
                          exact ⟨rfl, rfl⟩
                        · refine wp_valg (tj := 123) (.sl 2 (List.map rSpan r5.1)) rfl rfl (congrArg AV.bool hb12) rfl pv_move ?_
                          refine wp_valg (tj := 123) (.int .i64 (r5.1.length : Int)) rfl rfl (congrArg AV.bool hb12) rfl (pv_len (len_sl ti35)) ?_
                          refine wp_valg (tj := 123) (.bool (decide ((r5.1.length : Int) > 0))) rfl rfl (congrArg AV.bool hb12) rfl (pv_bin rfl rfl rfl) ?_
                          refine wp_valg (tj := 123) (.bool (decide ((r5.1.length : Int) > 0))) rfl rfl (congrArg AV.bool hb12) rfl pv_move ?_
                          refine op_iteb (fun hb13 => ?_) (fun hb13 => ?_)
                          · refine wp_valg (tj := 127) (.sl 1 (List.map (rI .i64) r3.1)) rfl rfl (congrArg AV.bool hb13) rfl pv_move ?_
                            refine wp_valg (tj := 127) (.sl 4 (List.map rLeg r4.1)) rfl rfl (congrArg AV.bool hb13) rfl pv_move ?_
                            refine wp_valg (tj := 127) (.int .i64 (j1 : Int)) rfl rfl (congrArg AV.bool hb13) rfl pv_move ?_
                            refine wp_valg (tj := 127) (.cp (rLeg a2) 0) rfl rfl (congrArg AV.bool hb13) rfl (pv_ixa (ixa_nat ti39 ti52 rfl ha2)) ?_
                            refine wp_valg (tj := 127) (.cp (rLeg a2) 1) rfl rfl (congrArg AV.bool hb13) rfl (pv_fa (fa_cp (c := 0) (off := 1) (i := 1) ti52 rfl ti3 rfl)) ?_
                            refine wp_valg (tj := 127) (.int .i64 a2.Volume) rfl rfl (congrArg AV.bool hb13) rfl (pv_load (ld_cp ti3 rfl)) ?_
                            refine wp_call [(.sl 1 (List.map (rI .i64) r3.1)), (.int .i64 a2.Volume)] rfl (wanted_yes (tj := 127) rfl (congrArg AV.bool hb13)) rfl rfl rfl ((cp_law11_has r3.1 a2.Volume) _) (fun v _ _ _ => wu_pan Try.func5 hI) (pend_yes rfl (pend_yes rfl (pend_yes rfl (pend_yes rfl (pend_yes rfl (pend_yes rfl (pend_yes rfl (pend_yes rfl (pend_yes rfl (pend_yes rfl (pend_yes rfl (pend_yes rfl (pend_yes rfl (pend_yes rfl (pend_yes rfl (pend_yes rfl (pend_yes rfl (pend_yes rfl (pend_yes rfl (pend_yes rfl (pend_yes rfl (pend_yes rfl (pend_yes rfl (pend_yes rfl (pend_yes rfl (pend_yes rfl (pend_yes rfl (pend_yes rfl (pend_yes rfl (pend_yes rfl (pend_yes rfl (pend_yes rfl (pend_yes rfl (pend_yes rfl (pend_yes rfl (pend_yes rfl (pend_yes rfl (pend_yes rfl (pend_yes rfl pend_nil))))))))))))))))))))))))))))))))))))))) fun r7 _ => ?_
                            refine wp_valg (tj := 127) (.bool (!r7)) rfl rfl (congrArg AV.bool hb13) rfl (pv_un rfl) ?_
                            refine wp_valg (tj := 123) (.bool (!r7)) rfl rfl (congrArg AV.bool hb12) rfl (pv_pick (t := true) (congrArg AV.bool hb13) rfl) ?_
                            refine wp_val (.bool (!r7)) rfl rfl (pv_pick (t := false) (congrArg AV.bool hb12) rfl) ?_
                            refine wp_nil ?_
                            refine wr_is [(1, (.ptr (ix ids 0) g 0 0)), (3, (.sl 1 (List.map (rI .i64) r2.1))), (5, (.sl 1 (List.map (rI .i64) r3.1))), (7, (.int .i64 (j : Int))), (8, (.sl 4 (List.map rLeg r4.1))), (10, (.bool x1)), (11, (.int .i64 (j1 : Int))), (12, (.sl 2 (List.map rSpan r5.1))), (137, (.bool (!r7)))] (.cons rfl (.cons rfl (.cons rfl (.cons rfl (.cons rfl (.cons rfl (.cons rfl (.cons rfl (.cons rfl .nil))))))))) ?_
                            refine hJ6 (!r7) _ _ ?_
                            exact ⟨rfl, rfl⟩
                          · refine wp_not (tj := 127) (b := false) rfl rfl (congrArg AV.bool hb13) rfl rfl ?_
                            refine wp_not (tj := 127) (b := false) rfl rfl (congrArg AV.bool hb13) rfl rfl ?_
                            refine wp_not (tj := 127) (b := false) rfl rfl (congrArg AV.bool hb13) rfl rfl ?_
                            refine wp_not (tj := 127) (b := false) rfl rfl (congrArg AV.bool hb13) rfl rfl ?_
                            refine wp_not (tj := 127) (b := false) rfl rfl (congrArg AV.bool hb13) rfl rfl ?_
                            refine wp_not (tj := 127) (b := false) rfl rfl (congrArg AV.bool hb13) rfl rfl ?_
                            refine wp_notE (tj := 127) (b := false) rfl rfl (congrArg AV.bool hb13) rfl rfl ?_
                            refine wp_not (tj := 127) (b := false) rfl rfl (congrArg AV.bool hb13) rfl rfl ?_
                            refine wp_valg (tj := 123) (.bool false) rfl rfl (congrArg AV.bool hb12) rfl (pv_pick (t := false) (congrArg AV.bool hb13) rfl) ?_
                            refine wp_val (.bool false) rfl rfl (pv_pick (t := false) (congrArg AV.bool hb12) rfl) ?_
                            refine wp_nil ?_
                            refine wr_is [(1, (.ptr (ix ids 0) g 0 0)), (3, (.sl 1 (List.map (rI .i64) r2.1))), (5, (.sl 1 (List.map (rI .i64) r3.1))), (7, (.int .i64 (j : Int))), (8, (.sl 4 (List.map rLeg r4.1))), (10, (.bool x1)), (11, (.int .i64 (j1 : Int))), (12, (.sl 2 (List.map rSpan r5.1))), (137, (.bool false))] (.cons rfl (.cons rfl (.cons rfl (.cons rfl (.cons rfl (.cons rfl (.cons rfl (.cons rfl (.cons rfl .nil))))))))) ?_
                            refine hJ6 false _ _ ?_
                            exact ⟨rfl, rfl⟩
                · rintro x1 fr h ⟨rfl, rfl⟩
                  refine wr_mod (alt_inl _ _ _) ?_
                  refine wr_seq ?_
                  refine wr_seq ?_
                  refine wr_region ?_
                  refine wo_val (.int .i64 (r4.1.length : Int)) rfl pv_move ?_
                  refine wo_val (.sl 4 (List.map rLeg r4.1)) rfl pv_move ?_
                  refine wo_val (.int .i64 (r4.1.length : Int)) rfl (pv_len (len_sl ti39)) ?_
                  refine wo_val (.bool (decide ((r4.1.length : Int) < (r4.1.length : Int)))) rfl (pv_bin rfl rfl rfl) ?_
                  refine wo_nil ?_
                  refine wr_condF rfl (Int.lt_irrefl _) ?_
                  refine wr_exit rfl ?_
                  refine wr_seq ?_
                  refine wr_region ?_
                  refine wo_val (.bool x1) rfl pv_move ?_
                  refine wo_val (.sl 1 (List.map (rI .i64) r2.1)) rfl pv_move ?_
                  refine wo_val (.int .i64 (j : Int)) rfl pv_move ?_
                  refine of_call [(.sl 1 (List.map (rI .i64) r2.1)), (.int .i64 (j : Int))] rfl rfl rfl rfl ((cp_law11_has r2.1 (j : Int)) _) (fun v _ => wu_pan Try.func5 hI) fun r8 _ => ?_
                  refine wo_val (.bool (!(x1 == r8))) rfl (pv_bin rfl rfl (bin_bne ti4)) ?_
                  refine wo_nil ?_
                  refine wf_itebn rfl (fun hc5 => ?_) (fun hc5 => ?_)
                  · refine wr_skip ?_
                    refine wr_inBlock ?_
                    refine wr_region ?_
                    refine wo_val (.int .i64 (j : Int)) rfl pv_move ?_
                    refine wo_val (.int .i64 (IntKind.wrap .i64 ((j : Int) + 1))) rfl (pv_bin rfl rfl rfl) ?_
                    refine wo_val (.int .i64 (IntKind.wrap .i64 ((j : Int) + 1))) rfl pv_assign ?_
                    refine wo_nil ?_
                    refine wr_is [(1, (.ptr (ix ids 0) g 0 0)), (3, (.sl 1 (List.map (rI .i64) r2.1))), (5, (.sl 1 (List.map (rI .i64) r3.1))), (7, (.int .i64 ((j + 1 : Nat) : Int)))] (.cons rfl (.cons rfl (.cons rfl (.cons (inc_ok (lt_of_get ha1) hlim1) .nil)))) ?_
                    refine wb_each ?_
                    refine hW () _ _ ?_
                    exact ⟨rfl, rfl⟩
                  · refine wr_seq ?_
                    refine wr_region ?_
                    refine wo_val (.bool false) rfl pv_assign ?_
                    refine wo_nil ?_
                    refine wx_each ?_
                    refine w_altr ?_
                    exact wr_ret (a := false) (vs := [(.bool false)]) Try.func5 hI rfl (.same _)
            · refine wo_not (tj := 66) (b := true) rfl (congrArg AV.bool hb9) rfl rfl ?_
              refine wo_not (tj := 66) (b := true) rfl (congrArg AV.bool hb9) rfl rfl ?_
              refine wo_not (tj := 66) (b := true) rfl (congrArg AV.bool hb9) rfl rfl ?_
              refine wo_not (tj := 66) (b := true) rfl (congrArg AV.bool hb9) rfl rfl ?_
              refine wo_not (tj := 66) (b := true) rfl (congrArg AV.bool hb9) rfl rfl ?_
              refine wo_not (tj := 66) (b := true) rfl (congrArg AV.bool hb9) rfl rfl ?_
              refine wo_not (tj := 66) (b := true) rfl (congrArg AV.bool hb9) rfl rfl ?_
              refine wo_not (tj := 66) (b := true) rfl (congrArg AV.bool hb9) rfl rfl ?_
              refine wo_not (tj := 66) (b := true) rfl (congrArg AV.bool hb9) rfl rfl ?_
              refine wo_not (tj := 66) (b := true) rfl (congrArg AV.bool hb9) rfl rfl ?_
              refine wo_val (.bool true) rfl (pv_pick (t := true) (congrArg AV.bool hb9) rfl) ?_
              exact wo_is [(1, (.ptr (ix ids 0) g 0 0)), (3, (.sl 1 (List.map (rI .i64) r2.1))), (5, (.sl 1 (List.map (rI .i64) r3.1))), (7, (.int .i64 (j : Int))), (8, (.sl 4 (List.map rLeg r4.1))), (77, (.bool ((r4.2 != 0) || ((r4.1.length : Int) != (a1.Segments.length : Int)))))] (.cons rfl (.cons rfl (.cons rfl (.cons rfl (.cons rfl (.cons (or_t hb9) .nil)))))) hJ4
            · refine wo_valg (tj := 66) (.sl 4 (List.map rLeg r4.1)) rfl (congrArg AV.bool hb9) rfl pv_move ?_
              refine wo_valg (tj := 66) (.int .i64 (r4.1.length : Int)) rfl (congrArg AV.bool hb9) rfl (pv_len (len_sl ti39)) ?_
              refine wo_valg (tj := 66) (.ptr (ix ids 0) g 0 4) rfl (congrArg AV.bool hb9) rfl (pv_fa (fa_ptr (c := 0) (off := 4) (i := 4) ti31 rfl ti26 rfl)) ?_
              refine wo_valg (tj := 66) (.sl 7 (List.map rRoute a.Routes)) rfl (congrArg AV.bool hb9) rfl (pv_load (ld_ptr hI rfl rfl rfl ti26 rfl)) ?_
              refine wo_valg (tj := 66) (.int .i64 (j : Int)) rfl (congrArg AV.bool hb9) rfl pv_move ?_
              refine wo_valg (tj := 66) (.cp (rRoute a1) 0) rfl (congrArg AV.bool hb9) rfl (pv_ixa (ixa_nat ti26 ti50 rfl ha1)) ?_
              refine wo_valg (tj := 66) (.cp (rRoute a1) 6) rfl (congrArg AV.bool hb9) rfl (pv_fa (fa_cp (c := 0) (off := 6) (i := 6) ti50 rfl ti34 rfl)) ?_
              refine wo_valg (tj := 66) (.sl 1 (List.map (rI .i64) a1.Segments)) rfl (congrArg AV.bool hb9) rfl (pv_load (ld_cp ti34 rfl)) ?_
              refine wo_valg (tj := 66) (.int .i64 (a1.Segments.length : Int)) rfl (congrArg AV.bool hb9) rfl (pv_len (len_sl ti34)) ?_
              refine wo_valg (tj := 66) (.bool ((r4.1.length : Int) != (a1.Segments.length : Int))) rfl (congrArg AV.bool hb9) rfl (pv_bin rfl rfl rfl) ?_
              refine wo_val (.bool ((r4.1.length : Int) != (a1.Segments.length : Int))) rfl (pv_pick (t := false) (congrArg AV.bool hb9) rfl) ?_
              exact wo_is [(1, (.ptr (ix ids 0) g 0 0)), (3, (.sl 1 (List.map (rI .i64) r2.1))), (5, (.sl 1 (List.map (rI .i64) r3.1))), (7, (.int .i64 (j : Int))), (8, (.sl 4 (List.map rLeg r4.1))), (77, (.bool ((r4.2 != 0) || ((r4.1.length : Int) != (a1.Segments.length : Int)))))] (.cons rfl (.cons rfl (.cons rfl (.cons rfl (.cons rfl (.cons (or_f hb9) .nil)))))) hJ4
          · rintro _ fr h ⟨rfl, rfl⟩
            refine wr_mod (alt_inl _ _ _) ?_
            refine wr_seq ?_
            refine wr_seq ?_
            refine wr_region ?_
            refine wo_val (.int .i64 (a.Routes.length : Int)) rfl pv_move ?_
            refine wo_val (.ptr (ix ids 0) g 0 4) rfl (pv_fa (fa_ptr (c := 0) (off := 4) (i := 4) ti31 rfl ti26 rfl)) ?_
            refine wo_val (.sl 7 (List.map rRoute a.Routes)) rfl (pv_load (ld_ptr hI rfl rfl rfl ti26 rfl)) ?_
            refine wo_val (.int .i64 (a.Routes.length : Int)) rfl (pv_len (len_sl ti26)) ?_
            refine wo_val (.bool (decide ((a.Routes.length : Int) < (a.Routes.length : Int)))) rfl (pv_bin rfl rfl rfl) ?_
            refine wo_nil ?_
            refine wr_condF rfl (Int.lt_irrefl _) ?_
            refine wr_exit rfl ?_
            refine wr_seq ?_
            refine wr_region ?_
            refine wo_val (.bool true) rfl pv_assign ?_
            refine wo_nil ?_
            exact wr_ret (a := true) (vs := [(.bool true)]) Try.func5 hI rfl (.same _)
      · refine wo_not (tj := 31) (b := true) rfl (congrArg AV.bool hb1) rfl rfl ?_
        refine wo_not (tj := 31) (b := true) rfl (congrArg AV.bool hb1) rfl rfl ?_
        refine wo_val (.bool true) rfl (pv_pick (t := true) (congrArg AV.bool hb1) rfl) ?_
        exact wo_is [(1, (.ptr (ix ids 0) g 0 0)), (3, (.sl 1 (List.map (rI .i64) r2.1))), (4, (.int .i64 r2.2)), (5, (.sl 1 (List.map (rI .i64) r3.1))), (6, (.int .i64 r3.2)), (34, (.bool ((r2.2 != 0) || (r3.2 != 0))))] (.cons rfl (.cons rfl (.cons rfl (.cons rfl (.cons rfl (.cons (or_t hb1) .nil)))))) hJ
      · refine wo_valg (tj := 31) (.int .i64 r3.2) rfl (congrArg AV.bool hb1) rfl pv_move ?_
        refine wo_valg (tj := 31) (.bool (r3.2 != 0)) rfl (congrArg AV.bool hb1) rfl (pv_bin rfl rfl rfl) ?_
        refine wo_val (.bool (r3.2 != 0)) rfl (pv_pick (t := false) (congrArg AV.bool hb1) rfl) ?_
        exact wo_is [(1, (.ptr (ix ids 0) g 0 0)), (3, (.sl 1 (List.map (rI .i64) r2.1))), (4, (.int .i64 r2.2)), (5, (.sl 1 (List.map (rI .i64) r3.1))), (6, (.int .i64 r3.2)), (34, (.bool ((r2.2 != 0) || (r3.2 != 0))))] (.cons rfl (.cons rfl (.cons rfl (.cons rfl (.cons rfl (.cons (or_f hb1) .nil)))))) hJ
    · refine wr_seq ?_
      refine wr_region ?_
      refine wo_val (.bool true) rfl pv_assign ?_
      refine wo_nil ?_
      exact wr_ret (a := true) (vs := [(.bool true)]) Try.func5 hI rfl (.same _)
  · refine wr_seq ?_
    refine wr_region ?_
    refine wo_val (.bool false) rfl pv_assign ?_
    refine wo_nil ?_
    exact wr_ret (a := false) (vs := [(.bool false)]) Try.func5 hI rfl (.same _)

theorem cp_law11_in (l : (List Span)) (minute : Int) : CP Try.prog 22 [(.sl 2 (List.map rSpan l)), (.int .i64 minute)] (law11_in l minute) (fun (x : Bool) => (AV.bool x)) := by
  refine cp_intro (n := 28) 0 Try.func22 rfl (by decide) rfl rfl fun h0 ids hI => ?_
  refine wr_in (wr_mod (law11_in.eq_1 _ _) ?_)
  refine wr_seq ?_
  refine wr_region ?_
  refine wo_val (.bool false) rfl pv_assign ?_
  refine wo_nil ?_
  refine wr_seq ?_
  refine wr_seq ?_
  refine wr_region ?_
  refine wo_val (.int .i64 0) rfl pv_assign ?_
  refine wo_nil ?_
  refine wr_block ?_
  refine wr_is [(0, (.sl 2 (List.map rSpan l))), (1, (.int .i64 minute)), (5, (.int .i64 0))] (.cons rfl (.cons rfl (.cons rfl .nil))) ?_
  refine wf_each' (P := Try.prog) l (fun _ a => fun _ => law11_in_b1 minute a) ((alt (fun _ => .ok false) (fun r => .ok r)) : (Unit ⊕ Bool) → R Bool)
    (fun j => fun _ => fun (fr : Nat → AV) (h : AHeap) => fr = frA [(0, (.sl 2 (List.map rSpan l))), (1, (.int .i64 minute)), (5, (.int .i64 (j : Int)))] ∧ h = hp h0 ids []) () ?_ ?_ ?_
  · exact ⟨rfl, rfl⟩
  · rintro j a ha W hW _ fr h ⟨rfl, rfl⟩
    refine wr_mod (m' := law11_in_b1 minute a) rfl (wr_mod (law11_in_b1.eq_1 _ _) ?_)
    refine wr_seq ?_
    refine wr_seq ?_
    refine wr_region ?_
    refine wo_val (.int .i64 (j : Int)) rfl pv_move ?_
    refine wo_val (.sl 2 (List.map rSpan l)) rfl pv_move ?_
    refine wo_val (.int .i64 (l.length : Int)) rfl (pv_len (len_sl ti35)) ?_
    refine wo_val (.bool (decide ((j : Int) < (l.length : Int)))) rfl (pv_bin rfl rfl rfl) ?_
    refine wo_nil ?_
    refine wr_lim (t := 0) (L := l) rfl fun hlim => ?_
    refine wr_condT rfl (Int.ofNat_lt.2 (lt_of_get ha)) ?_
    refine wr_skip ?_
    refine wr_seq ?_
    refine wr_block ?_
    refine wr_seq ?_
    refine wr_region ?_
    refine wo_val (.sl 2 (List.map rSpan l)) rfl pv_move ?_
    refine wo_val (.int .i64 (j : Int)) rfl pv_move ?_
    refine wo_val (.cp (rSpan a) 0) rfl (pv_ixa (ixa_nat ti35 ti55 rfl ha)) ?_
    refine wo_val (.cp (rSpan a) 0) rfl (pv_fa (fa_cp (c := 0) (off := 0) (i := 0) ti55 rfl ti3 rfl)) ?_
    refine wo_val (.int .i64 a.From) rfl (pv_load (ld_cp ti3 rfl)) ?_
    refine wo_val (.int .i64 minute) rfl pv_move ?_
    refine wo_val (.bool (decide (a.From ≤ minute))) rfl (pv_bin rfl rfl rfl) ?_
    refine wo_val (.bool (decide (a.From ≤ minute))) rfl pv_move ?_
    refine wo_meet 8 [(0, (.sl 2 (List.map rSpan l))), (1, (.int .i64 minute)), (5, (.int .i64 (j : Int))), (27, (.bool ((decide (a.From ≤ minute)) && (decide (minute < a.To)))))] ?_ fun hJ => wo_cases (decide (a.From ≤ minute)) (fun hb1 => ?_) (fun hb1 => ?_)
    · refine wo_nil ?_
      refine wf_iteb rfl (fun hc => ?_) (fun hc => ?_)
      · refine wr_seq ?_
        refine wr_region ?_
        refine wo_val (.bool true) rfl pv_assign ?_
        refine wo_nil ?_
        refine wx_each ?_
        refine w_altr ?_
        exact wr_ret (a := true) (vs := [(.bool true)]) Try.func22 hI rfl (.same _)
      · refine wr_skip ?_
        refine wr_inBlock ?_
        refine wr_region ?_
        refine wo_val (.int .i64 (j : Int)) rfl pv_move ?_
        refine wo_val (.int .i64 (IntKind.wrap .i64 ((j : Int) + 1))) rfl (pv_bin rfl rfl rfl) ?_
        refine wo_val (.int .i64 (IntKind.wrap .i64 ((j : Int) + 1))) rfl pv_assign ?_
        refine wo_nil ?_
        refine wr_is [(0, (.sl 2 (List.map rSpan l))), (1, (.int .i64 minute)), (5, (.int .i64 ((j + 1 : Nat) : Int)))] (.cons rfl (.cons rfl (.cons (inc_ok (lt_of_get ha) hlim) .nil))) ?_
        refine wb_each ?_
        refine hW () _ _ ?_
        exact ⟨rfl, rfl⟩
    · refine wo_valg (tj := 19) (.int .i64 minute) rfl (congrArg AV.bool hb1) rfl pv_move ?_
      refine wo_valg (tj := 19) (.sl 2 (List.map rSpan l)) rfl (congrArg AV.bool hb1) rfl pv_move ?_
      refine wo_valg (tj := 19) (.int .i64 (j : Int)) rfl (congrArg AV.bool hb1) rfl pv_move ?_
      refine wo_valg (tj := 19) (.cp (rSpan a) 0) rfl (congrArg AV.bool hb1) rfl (pv_ixa (ixa_nat ti35 ti55 rfl ha)) ?_
      refine wo_valg (tj := 19) (.cp (rSpan a) 1) rfl (congrArg AV.bool hb1) rfl (pv_fa (fa_cp (c := 0) (off := 1) (i := 1) ti55 rfl ti3 rfl)) ?_
      refine wo_valg (tj := 19) (.int .i64 a.To) rfl (congrArg AV.bool hb1) rfl (pv_load (ld_cp ti3 rfl)) ?_
      refine wo_valg (tj := 19) (.bool (decide (minute < a.To))) rfl (congrArg AV.bool hb1) rfl (pv_bin rfl rfl rfl) ?_
      refine wo_val (.bool (decide (minute < a.To))) rfl (pv_pick (t := true) (congrArg AV.bool hb1) rfl) ?_
      exact wo_is [(0, (.sl 2 (List.map rSpan l))), (1, (.int .i64 minute)), (5, (.int .i64 (j : Int))), (27, (.bool ((decide (a.From ≤ minute)) && (decide (minute < a.To)))))] (.cons rfl (.cons rfl (.cons rfl (.cons (and_t hb1) .nil)))) hJ
    · refine wo_not (tj := 19) (b := false) rfl (congrArg AV.bool hb1) rfl rfl ?_
      refine wo_not (tj := 19) (b := false) rfl (congrArg AV.bool hb1) rfl rfl ?_
      refine wo_not (tj := 19) (b := false) rfl (congrArg AV.bool hb1) rfl rfl ?_
      refine wo_not (tj := 19) (b := false) rfl (congrArg AV.bool hb1) rfl rfl ?_
      refine wo_not (tj := 19) (b := false) rfl (congrArg AV.bool hb1) rfl rfl ?_
      refine wo_not (tj := 19) (b := false) rfl (congrArg AV.bool hb1) rfl rfl ?_
      refine wo_not (tj := 19) (b := false) rfl (congrArg AV.bool hb1) rfl rfl ?_
      refine wo_val (.bool false) rfl (pv_pick (t := false) (congrArg AV.bool hb1) rfl) ?_
      exact wo_is [(0, (.sl 2 (List.map rSpan l))), (1, (.int .i64 minute)), (5, (.int .i64 (j : Int))), (27, (.bool ((decide (a.From ≤ minute)) && (decide (minute < a.To)))))] (.cons rfl (.cons rfl (.cons rfl (.cons (and_f hb1) .nil)))) hJ
  · rintro _ fr h ⟨rfl, rfl⟩
    refine wr_mod (alt_inl _ _ _) ?_
    refine wr_seq ?_
    refine wr_seq ?_
    refine wr_region ?_
    refine wo_val (.int .i64 (l.length : Int)) rfl pv_move ?_
    refine wo_val (.sl 2 (List.map rSpan l)) rfl pv_move ?_
    refine wo_val (.int .i64 (l.length : Int)) rfl (pv_len (len_sl ti35)) ?_
    refine wo_val (.bool (decide ((l.length : Int) < (l.length : Int)))) rfl (pv_bin rfl rfl rfl) ?_
    refine wo_nil ?_
    refine wr_condF rfl (Int.lt_irrefl _) ?_
    refine wr_exit rfl ?_
    refine wr_seq ?_
    refine wr_region ?_
    refine wo_val (.bool false) rfl pv_assign ?_
    refine wo_nil ?_
    exact wr_ret (a := false) (vs := [(.bool false)]) Try.func22 hI rfl (.same _)

theorem cp_hours_Has_c1 (s : Span) (b : Int) : CP Try.prog 37 [(.agg (rSpan s)), (.cp [(.int .i64 b)] 0)] (hours_Has_c1 s b) (fun (x : Bool) => (AV.bool x)) := by
  refine cp_intro (n := 14) 1 Try.func37 rfl (by decide) rfl rfl fun h0 ids hI => ?_
  refine wr_in (wr_mod (hours_Has_c1.eq_1 _ _) ?_)
  refine wr_seq ?_
  refine wr_region ?_
  refine wo_box (v := (.agg (rSpan s))) (j := 0) hI rfl rfl rfl rfl rfl rfl rfl fun g => ?_
  refine wo_val (.bool false) rfl pv_assign ?_
  refine wo_nil ?_
  refine wr_hp [(some (.rows g 2 [(rSpan s)]))] rfl ?_
  refine wr_seq ?_
  refine wr_region ?_
  refine wo_val (.ptr (ix ids 0) g 0 0) rfl (pv_fa (fa_ptr (c := 0) (off := 0) (i := 0) ti55 rfl ti3 rfl)) ?_
  refine wo_val (.int .i64 s.From) rfl (pv_load (ld_ptr hI rfl rfl rfl ti3 rfl)) ?_
  refine wo_val (.int .i64 b) rfl (pv_load (ld_cp ti3 rfl)) ?_
  refine wo_val (.bool (decide (s.From ≤ b))) rfl (pv_bin rfl rfl rfl) ?_
  refine wo_val (.bool (decide (s.From ≤ b))) rfl pv_move ?_
  refine wo_meet 5 [(13, (.bool ((decide (s.From ≤ b)) && (decide (b < s.To)))))] ?_ fun hJ => wo_cases (decide (s.From ≤ b)) (fun hb1 => ?_) (fun hb1 => ?_)
  · refine wo_val (.bool ((decide (s.From ≤ b)) && (decide (b < s.To)))) rfl pv_assign ?_
    refine wo_nil ?_
    exact wr_ret (a := ((decide (s.From ≤ b)) && (decide (b < s.To)))) (vs := [(.bool ((decide (s.From ≤ b)) && (decide (b < s.To))))]) Try.func37 hI rfl (.same _)
  · refine wo_valg (tj := 8) (.int .i64 b) rfl (congrArg AV.bool hb1) rfl (pv_load (ld_cp ti3 rfl)) ?_
    refine wo_valg (tj := 8) (.ptr (ix ids 0) g 0 1) rfl (congrArg AV.bool hb1) rfl (pv_fa (fa_ptr (c := 0) (off := 1) (i := 1) ti55 rfl ti3 rfl)) ?_
    refine wo_valg (tj := 8) (.int .i64 s.To) rfl (congrArg AV.bool hb1) rfl (pv_load (ld_ptr hI rfl rfl rfl ti3 rfl)) ?_
    refine wo_valg (tj := 8) (.bool (decide (b < s.To))) rfl (congrArg AV.bool hb1) rfl (pv_bin rfl rfl rfl) ?_
    refine wo_val (.bool (decide (b < s.To))) rfl (pv_pick (t := true) (congrArg AV.bool hb1) rfl) ?_
    exact wo_is [(13, (.bool ((decide (s.From ≤ b)) && (decide (b < s.To)))))] (.cons (and_t hb1) .nil) hJ
  · refine wo_not (tj := 8) (b := false) rfl (congrArg AV.bool hb1) rfl rfl ?_
    refine wo_not (tj := 8) (b := false) rfl (congrArg AV.bool hb1) rfl rfl ?_
    refine wo_not (tj := 8) (b := false) rfl (congrArg AV.bool hb1) rfl rfl ?_
    refine wo_not (tj := 8) (b := false) rfl (congrArg AV.bool hb1) rfl rfl ?_
    refine wo_val (.bool false) rfl (pv_pick (t := false) (congrArg AV.bool hb1) rfl) ?_
    exact wo_is [(13, (.bool ((decide (s.From ≤ b)) && (decide (b < s.To)))))] (.cons (and_f hb1) .nil) hJ

theorem cg_slices_IndexFunc_Span_c1 (s : (List Span)) (s1 : Int) (h0 : AHeap) (o0 : Nat) (g : Nat) (hI0 : Ids h0 [o0] 1) : slices_IndexFunc_Span_c1 s s1 ≠ .bad → ACalls Try.prog 45 [(.sl 2 (List.map rSpan s)), (.func (.func 37) [] [(.ptr o0 g 0 0)])] (hp h0 [o0] [some (.rows g 1 [[(.int .i64 s1)]])]) (AnsG (fun a_ v h' => v = (.int .i64 a_) ∧ h' = hp h0 [o0] [some (.rows g 1 [[(.int .i64 s1)]])]) h0 (slices_IndexFunc_Span_c1 s s1)) := by
  refine cpg_intro (n := 19) 0 Try.func45 rfl (by decide) rfl rfl hI0 rfl fun ids he hI => ?_
  clear hI0
  obtain rfl : ix ids 0 = o0 := he 0 rfl
  clear he
  refine wr_in (wr_mod (slices_IndexFunc_Span_c1.eq_1 _ _) ?_)
  refine wr_seq ?_
  refine wr_region ?_
  refine wo_val (.int .i64 0) rfl pv_assign ?_
  refine wo_nil ?_
  refine wr_seq ?_
  refine wr_seq ?_
  refine wr_region ?_
  refine wo_val (.sl 2 (List.map rSpan s)) rfl pv_move ?_
  refine wo_val (.int .i64 (s.length : Int)) rfl (pv_len (len_sl ti35)) ?_
  refine wo_val (.int .i64 0) rfl pv_move ?_
  refine wo_nil ?_
  refine wr_block ?_
  refine wr_is [(0, (.sl 2 (List.map rSpan s))), (1, (.func (.func 37) [] [(.ptr (ix ids 0) g 0 0)])), (7, (.int .i64 (s.length : Int))), (8, (.int .i64 0))] (.cons rfl (.cons rfl (.cons rfl (.cons rfl .nil)))) ?_
  refine wf_each' (P := Try.prog) s (fun j a => fun _ => slices_IndexFunc_Span_c1_b1 s1 j a) ((alt (fun _ => .ok (-1)) (fun r => .ok r)) : (Unit ⊕ Int) → R Int)
    (fun j => fun _ => fun (fr : Nat → AV) (h : AHeap) => fr = frA [(0, (.sl 2 (List.map rSpan s))), (1, (.func (.func 37) [] [(.ptr (ix ids 0) g 0 0)])), (7, (.int .i64 (s.length : Int))), (8, (.int .i64 (j : Int)))] ∧ h = hp h0 ids [(some (.rows g 1 [[(.int .i64 s1)]]))]) () ?_ ?_ ?_
  · exact ⟨rfl, rfl⟩
  · rintro j a ha W hW _ fr h ⟨rfl, rfl⟩
    refine wr_mod (m' := slices_IndexFunc_Span_c1_b1 s1 j a) rfl (wr_mod (slices_IndexFunc_Span_c1_b1.eq_1 _ _ _) ?_)
    refine wr_seq ?_
    refine wr_region ?_
    refine wo_val (.bool (decide ((j : Int) < (s.length : Int)))) rfl (pv_bin rfl rfl rfl) ?_
    refine wo_nil ?_
    refine wr_seq ?_
    refine wr_lim (t := 0) (L := s) rfl fun hlim => ?_
    refine wr_condT rfl (Int.ofNat_lt.2 (lt_of_get ha)) ?_
    refine wr_skip ?_
    refine wr_seq ?_
    refine wr_block ?_
    refine wr_seq ?_
    refine wr_region ?_
    refine wo_val (.int .i64 (j : Int)) rfl pv_move ?_
    refine wo_val (.int .i64 (j : Int)) rfl pv_assign ?_
    refine wo_nil ?_
    refine wr_seq ?_
    refine wr_region ?_
    refine wo_val (.func (.func 37) [] [(.ptr (ix ids 0) g 0 0)]) rfl pv_move ?_
    refine wo_val (.sl 2 (List.map rSpan s)) rfl pv_move ?_
    refine wo_val (.int .i64 (j : Int)) rfl pv_move ?_
    refine wo_val (.cp (rSpan a) 0) rfl (pv_ixa (ixa_nat ti35 ti55 rfl ha)) ?_
    refine wo_val (.agg (rSpan a)) rfl (pv_load (ld_cp ti55 rfl)) ?_
    refine of_call [(.agg (rSpan a)), (.ptr (ix ids 0) g 0 0)] rfl rfl rfl rfl (CP.lend (cp_hours_Has_c1 a s1) (LF.lfz (.cons (.same _) (.cons (.ptrL (hI.at rfl rfl) rfl rfl (lf_refl _)) .nil))) (fun _ _ => (.bool _))) (fun v _ => wu_panG (K := 1) (N := 0) Try.func45 hI) fun r _ => ?_
    refine wo_nil ?_
    refine wf_iteb rfl (fun hc => ?_) (fun hc => ?_)
    · refine wr_seq ?_
      refine wr_region ?_
      refine wo_val (.int .i64 (j : Int)) rfl pv_move ?_
      refine wo_val (.int .i64 (j : Int)) rfl pv_assign ?_
      refine wo_nil ?_
      refine wx_each ?_
      refine w_altr ?_
      exact wr_retG (K := 1) (N := 0) (a := (j : Int)) (vs := [(.int .i64 (j : Int))]) [some (.rows g 1 [[(.int .i64 s1)]])] Try.func45 hI rfl rfl rfl (.keep .nil) (.same _) ⟨rfl, rfl⟩
    · refine wr_skip ?_
      refine wr_inBlock ?_
      refine wr_region ?_
      refine wo_val (.int .i64 (IntKind.wrap .i64 ((j : Int) + 1))) rfl (pv_bin rfl rfl rfl) ?_
      refine wo_val (.int .i64 (IntKind.wrap .i64 ((j : Int) + 1))) rfl pv_move ?_
      refine wo_nil ?_
      refine wr_is [(0, (.sl 2 (List.map rSpan s))), (1, (.func (.func 37) [] [(.ptr (ix ids 0) g 0 0)])), (7, (.int .i64 (s.length : Int))), (8, (.int .i64 ((j + 1 : Nat) : Int)))] (.cons rfl (.cons rfl (.cons rfl (.cons (inc_ok (lt_of_get ha) hlim) .nil)))) ?_
      refine wb_each ?_
      refine hW () _ _ ?_
      exact ⟨rfl, rfl⟩
  · rintro _ fr h ⟨rfl, rfl⟩
    refine wr_mod (alt_inl _ _ _) ?_
    refine wr_seq ?_
    refine wr_region ?_
    refine wo_val (.bool (decide ((s.length : Int) < (s.length : Int)))) rfl (pv_bin rfl rfl rfl) ?_
    refine wo_nil ?_
    refine wr_seq ?_
    refine wr_condF rfl (Int.lt_irrefl _) ?_
    refine wr_exit rfl ?_
    refine wr_seq ?_
    refine wr_region ?_
    refine wo_val (.int .i64 (-1)) rfl pv_assign ?_
    refine wo_nil ?_
    exact wr_retG (K := 1) (N := 0) (a := (-1)) (vs := [(.int .i64 (-1))]) [some (.rows g 1 [[(.int .i64 s1)]])] Try.func45 hI rfl rfl rfl (.keep .nil) (.same _) ⟨rfl, rfl⟩

theorem cg_slices_ContainsFunc_Span_c1 (s : (List Span)) (s1 : Int) (h0 : AHeap) (o0 : Nat) (g : Nat) (hI0 : Ids h0 [o0] 1) : slices_ContainsFunc_Span_c1 s s1 ≠ .bad → ACalls Try.prog 36 [(.sl 2 (List.map rSpan s)), (.func (.func 37) [] [(.ptr o0 g 0 0)])] (hp h0 [o0] [some (.rows g 1 [[(.int .i64 s1)]])]) (AnsG (fun a_ v h' => v = (.bool a_) ∧ h' = hp h0 [o0] [some (.rows g 1 [[(.int .i64 s1)]])]) h0 (slices_ContainsFunc_Span_c1 s s1)) := by
  refine cpg_intro (n := 9) 0 Try.func36 rfl (by decide) rfl rfl hI0 rfl fun ids he hI => ?_
  clear hI0
  obtain rfl : ix ids 0 = o0 := he 0 rfl
  clear he
  refine wr_in (wr_mod (slices_ContainsFunc_Span_c1.eq_1 _ _) ?_)
  refine wr_seq ?_
  refine wr_region ?_
  refine wo_val (.bool false) rfl pv_assign ?_
  refine wo_nil ?_
  refine wr_seq ?_
  refine wr_region ?_
  refine wo_val (.sl 2 (List.map rSpan s)) rfl pv_move ?_
  refine wo_val (.func (.func 37) [] [(.ptr (ix ids 0) g 0 0)]) rfl pv_move ?_
  refine of_callG [0] hI rfl rfl (cg_slices_IndexFunc_Span_c1 s s1 _ (ix ids 0) g (by exact hI.sub' rfl rfl)) rfl rfl rfl rfl rfl rfl (fun v _ => wu_panG (K := 1) (N := 0) Try.func36 hI) ?_
  rintro r _ _ _ ⟨rfl, rfl⟩
  refine wo_putH [0] [(some (.rows g 1 [[(.int .i64 s1)]]))] hI rfl rfl rfl rfl ?_
  refine wo_put1 ?_
  refine wo_val (.bool (decide (r ≥ 0))) rfl (pv_bin rfl rfl rfl) ?_
  refine wo_val (.bool (decide (r ≥ 0))) rfl pv_assign ?_
  refine wo_nil ?_
  exact wr_retG (K := 1) (N := 0) (a := (decide (r ≥ 0))) (vs := [(.bool (decide (r ≥ 0)))]) [some (.rows g 1 [[(.int .i64 s1)]])] Try.func36 hI rfl rfl rfl (.keep .nil) (.same _) ⟨rfl, rfl⟩

theorem cp_hours_Has (l : (List Span)) (minute : Int) : CP Try.prog 23 [(.sl 2 (List.map rSpan l)), (.int .i64 minute)] (hours_Has l minute) (fun (x : Bool) => (AV.bool x)) := by
  refine cp_intro (n := 16) 1 Try.func23 rfl (by decide) rfl rfl fun h0 ids hI => ?_
  refine wr_in (wr_mod (hours_Has.eq_1 _ _) ?_)
  refine wr_seq ?_
  refine wr_region ?_
  refine wo_box (v := (.int .i64 minute)) (j := 0) hI rfl rfl rfl rfl rfl rfl rfl fun g => ?_
  refine wo_val (.bool false) rfl pv_assign ?_
  refine wo_nil ?_
  refine wr_hp [(some (.rows g 1 [[(.int .i64 minute)]]))] rfl ?_
  refine wr_seq ?_
  refine wr_region ?_
  refine wo_val (.int .i64 minute) rfl (pv_load (ld_ptr hI rfl rfl rfl ti3 rfl)) ?_
  refine wo_val (.bool (decide (minute ≥ 0))) rfl (pv_bin rfl rfl rfl) ?_
  refine wo_val (.bool (decide (minute ≥ 0))) rfl pv_move ?_
  refine wo_meet 3 [(0, (.sl 2 (List.map rSpan l))), (3, (.ptr (ix ids 0) g 0 0)), (10, (.bool ((decide (minute ≥ 0)) && (decide (minute < 1440)))))] ?_ fun hJ => wo_cases (decide (minute ≥ 0)) (fun hb1 => ?_) (fun hb1 => ?_)
  · refine wo_val (.bool ((decide (minute ≥ 0)) && (decide (minute < 1440)))) rfl pv_move ?_
    refine wo_join 4 ((fun (b : Bool) => .ok b) : Bool → R Bool) (fun (b : Bool) (fr : Nat → AV) (h : AHeap) => fr = frA [(15, (.bool b))] ∧ h = hp h0 ids [(some (.rows g 1 [[(.int .i64 minute)]]))]) ?_ fun hJ1 => of_if1 (fun hb3 => ?_) (fun hb3 => ?_)
    · rintro b fr h ⟨rfl, rfl⟩
      refine wo_val (.bool b) rfl pv_assign ?_
      refine wo_nil ?_
      exact wr_ret (a := b) (vs := [(.bool b)]) Try.func23 hI rfl (.same _)
    · refine wo_valg (tj := 11) (.sl 2 (List.map rSpan l)) rfl (congrArg AV.bool hb3) rfl pv_move ?_
      refine wo_valg (tj := 11) (.func (.func 37) [] [(.ptr (ix ids 0) g 0 0)]) rfl (congrArg AV.bool hb3) rfl pv_func ?_
      refine of_callG [0] hI rfl rfl (cg_slices_ContainsFunc_Span_c1 l minute _ (ix ids 0) g (by exact hI.sub' rfl rfl)) rfl rfl rfl (wanted_yes (tj := 11) rfl (congrArg AV.bool hb3)) rfl rfl (fun v _ => wu_pan Try.func23 hI) ?_
      rintro r _ _ _ ⟨rfl, rfl⟩
      refine wo_putH [0] [(some (.rows g 1 [[(.int .i64 minute)]]))] hI rfl rfl rfl rfl ?_
      refine wo_put1 ?_
      refine wo_val (.bool r) rfl (pv_pick (t := true) (congrArg AV.bool hb3) rfl) ?_
      refine wo_back1 ?_
      refine wo_is [(15, (.bool r))] (.cons rfl .nil) ?_
      exact hJ1 r _ _ ⟨rfl, rfl⟩
    · refine wo_not (tj := 11) (b := false) rfl (congrArg AV.bool hb3) rfl rfl ?_
      refine wo_not (tj := 11) (b := false) rfl (congrArg AV.bool hb3) rfl rfl ?_
      refine wo_not (tj := 11) (b := false) rfl (congrArg AV.bool hb3) rfl rfl ?_
      refine wo_val (.bool false) rfl (pv_pick (t := false) (congrArg AV.bool hb3) rfl) ?_
      refine wo_back1 ?_
      refine wo_is [(15, (.bool false))] (.cons rfl .nil) ?_
      exact hJ1 false _ _ ⟨rfl, rfl⟩
  · refine wo_valg (tj := 7) (.int .i64 minute) rfl (congrArg AV.bool hb1) rfl (pv_load (ld_ptr hI rfl rfl rfl ti3 rfl)) ?_
    refine wo_valg (tj := 7) (.bool (decide (minute < 1440))) rfl (congrArg AV.bool hb1) rfl (pv_bin rfl rfl rfl) ?_
    refine wo_val (.bool (decide (minute < 1440))) rfl (pv_pick (t := true) (congrArg AV.bool hb1) rfl) ?_
    exact wo_is [(0, (.sl 2 (List.map rSpan l))), (3, (.ptr (ix ids 0) g 0 0)), (10, (.bool ((decide (minute ≥ 0)) && (decide (minute < 1440)))))] (.cons rfl (.cons rfl (.cons (and_t hb1) .nil))) hJ
  · refine wo_not (tj := 7) (b := false) rfl (congrArg AV.bool hb1) rfl rfl ?_
    refine wo_not (tj := 7) (b := false) rfl (congrArg AV.bool hb1) rfl rfl ?_
    refine wo_val (.bool false) rfl (pv_pick (t := false) (congrArg AV.bool hb1) rfl) ?_
    exact wo_is [(0, (.sl 2 (List.map rSpan l))), (3, (.ptr (ix ids 0) g 0 0)), (10, (.bool ((decide (minute ≥ 0)) && (decide (minute < 1440)))))] (.cons rfl (.cons rfl (.cons (and_f hb1) .nil))) hJ

theorem cp_law11_OpeningClosed (a : Airspace) (segment : Int) (minute : Int) : CP Try.prog 7 [(.agg (rAirspace a)), (.int .i64 segment), (.int .i64 minute)] (law11_OpeningClosed a segment minute) (fun (x : Bool) => (AV.bool x)) := by
  refine cp_intro (n := 91) 2 Try.func7 rfl (by decide) rfl rfl fun h0 ids hI => ?_
  refine wr_in (wr_mod (law11_OpeningClosed.eq_1 _ _ _) ?_)
  refine wr_seq ?_
  refine wr_region ?_
  refine wo_box (v := (.agg (rAirspace a))) (j := 0) hI rfl rfl rfl rfl rfl rfl rfl fun g => ?_
  refine wo_val (.bool false) rfl pv_assign ?_
  refine wo_nil ?_
  refine wr_hp [(some (.rows g 8 [(rAirspace a)])), none] rfl ?_
  refine wr_seq ?_
  refine wr_seq ?_
  refine wr_region ?_
  refine of_call [] rfl rfl rfl rfl ((cp_law11_sane) _) (fun v _ => wu_pan Try.func7 hI) fun r _ => ?_
  refine wo_val (.bool (!r)) rfl (pv_un rfl) ?_
  refine wo_nil ?_
  refine wf_itebn rfl (fun hc => ?_) (fun hc => ?_)
  · refine wr_skip ?_
    refine wr_seq ?_
    refine wr_seq ?_
    refine wr_region ?_
    refine wo_val (.agg (rAirspace a)) rfl (pv_load (ld_ptr hI rfl rfl rfl ti31 rfl)) ?_
    refine of_call [(.agg (rAirspace a))] rfl rfl rfl rfl ((cp_ref11_Few a) _) (fun v _ => wu_pan Try.func7 hI) fun r1 _ => ?_
    refine wo_val (.bool (!r1)) rfl (pv_un rfl) ?_
    refine wo_nil ?_
    refine wf_itebn rfl (fun hc1 => ?_) (fun hc1 => ?_)
    · refine wr_skip ?_
      refine wr_seq ?_
      refine wr_region ?_
      refine wo_val (.agg (rAirspace a)) rfl (pv_load (ld_ptr hI rfl rfl rfl ti31 rfl)) ?_
      refine wo_val (.int .i64 segment) rfl pv_move ?_
      refine of_call [(.agg (rAirspace a)), (.int .i64 segment)] rfl rfl rfl rfl ((cp_opening_Minutes a segment) _) (fun v _ => wu_pan Try.func7 hI) fun r2 _ => ?_
      refine wo_val (.tup [(.sl 2 (List.map rSpan r2.1)), (.int .i64 r2.2)]) rfl pv_move ?_
      refine wo_val (.sl 2 (List.map rSpan r2.1)) rfl (pv_ext rfl) ?_
      refine wo_val (.int .i64 r2.2) rfl (pv_ext rfl) ?_
      refine wo_val (.sl 2 (List.map rSpan r2.1)) rfl pv_assign ?_
      refine wo_val (.int .i64 r2.2) rfl pv_assign ?_
      refine wo_nil ?_
      refine wr_seq ?_
      refine wr_seq ?_
      refine wr_region ?_
      refine wo_val (.int .i64 r2.2) rfl pv_move ?_
      refine wo_val (.bool (r2.2 != 0)) rfl (pv_bin rfl rfl rfl) ?_
      refine wo_nil ?_
      refine wf_iteb rfl (fun hc2 => ?_) (fun hc2 => ?_)
      · refine wr_seq ?_
        refine wr_region ?_
        refine wo_val (.sl 2 (List.map rSpan r2.1)) rfl pv_move ?_
        refine wo_val (.int .i64 (r2.1.length : Int)) rfl (pv_len (len_sl ti35)) ?_
        refine wo_val (.bool ((r2.1.length : Int) == 0)) rfl (pv_bin rfl rfl rfl) ?_
        refine wo_val (.bool ((r2.1.length : Int) == 0)) rfl pv_move ?_
        refine wo_meet 3 [(30, (.bool (((r2.1.length : Int) == 0) && (r2.2 == 1))))] ?_ fun hJ => wo_cases ((r2.1.length : Int) == 0) (fun hb1 => ?_) (fun hb1 => ?_)
        · refine wo_val (.bool (((r2.1.length : Int) == 0) && (r2.2 == 1))) rfl pv_assign ?_
          refine wo_nil ?_
          exact wr_ret (a := (((r2.1.length : Int) == 0) && (r2.2 == 1))) (vs := [(.bool (((r2.1.length : Int) == 0) && (r2.2 == 1)))]) Try.func7 hI rfl (.same _)
        · refine wo_valg (tj := 27) (.int .i64 r2.2) rfl (congrArg AV.bool hb1) rfl pv_move ?_
          refine wo_valg (tj := 27) (.bool (r2.2 == 1)) rfl (congrArg AV.bool hb1) rfl (pv_bin rfl rfl rfl) ?_
          refine wo_val (.bool (r2.2 == 1)) rfl (pv_pick (t := true) (congrArg AV.bool hb1) rfl) ?_
          exact wo_is [(30, (.bool (((r2.1.length : Int) == 0) && (r2.2 == 1))))] (.cons (and_t hb1) .nil) hJ
        · refine wo_not (tj := 27) (b := false) rfl (congrArg AV.bool hb1) rfl rfl ?_
          refine wo_not (tj := 27) (b := false) rfl (congrArg AV.bool hb1) rfl rfl ?_
          refine wo_val (.bool false) rfl (pv_pick (t := false) (congrArg AV.bool hb1) rfl) ?_
          exact wo_is [(30, (.bool (((r2.1.length : Int) == 0) && (r2.2 == 1))))] (.cons (and_f hb1) .nil) hJ
      · refine wr_skip ?_
        refine wr_seq ?_
        refine wr_seq ?_
        refine wr_region ?_
        refine wo_val (.int .i64 segment) rfl pv_move ?_
        refine wo_val (.bool (decide (segment < 0))) rfl (pv_bin rfl rfl rfl) ?_
        refine wo_val (.bool (decide (segment < 0))) rfl pv_move ?_
        refine wo_meet 6 [(1, (.int .i64 segment)), (2, (.int .i64 minute)), (3, (.ptr (ix ids 0) g 0 0)), (7, (.sl 2 (List.map rSpan r2.1))), (39, (.bool ((decide (segment < 0)) || (decide (segment ≥ (a.Segments.length : Int))))))] ?_ fun hJ1 => wo_cases (decide (segment < 0)) (fun hb3 => ?_) (fun hb3 => ?_)
        · refine wo_nil ?_
          refine wf_iteb rfl (fun hc3 => ?_) (fun hc3 => ?_)
          · refine wr_seq ?_
            refine wr_region ?_
            refine wo_val (.bool false) rfl pv_assign ?_
            refine wo_nil ?_
            exact wr_ret (a := false) (vs := [(.bool false)]) Try.func7 hI rfl (.same _)
          · refine wr_skip ?_
            refine wr_seq ?_
            refine wr_region ?_
            refine wo_val (.ptr (ix ids 0) g 0 3) rfl (pv_fa (fa_ptr (c := 0) (off := 3) (i := 3) ti31 rfl ti25 rfl)) ?_
            refine wo_val (.sl 5 (List.map rSegment a.Segments)) rfl (pv_load (ld_ptr hI rfl rfl rfl ti25 rfl)) ?_
            refine wo_val (.int .i64 segment) rfl pv_move ?_
            refine of_idx fun a1 hz hx1 => ?_
            refine wo_val (.cp (rSegment a1) 0) rfl (pv_ixa (ixa_sl ti25 ti59 rfl hz hx1)) ?_
            refine wo_val (.agg (rSegment a1)) rfl (pv_load (ld_cp ti59 rfl)) ?_
            refine wo_alloc (j := 1) hI rfl rfl rfl rfl ti59 rfl fun g1 => ?_
            refine wo_store (st_ptr hI rfl rfl rfl rfl ti59 rfl rfl rfl rfl rfl) ?_
            refine wo_nil ?_
            refine wr_hp [(some (.rows g 8 [(rAirspace a)])), (some (.rows g1 5 [(rSegment a1)]))] rfl ?_
            refine wr_seq ?_
            refine wr_seq ?_
            refine wr_region ?_
            refine wo_val (.ptr (ix ids 1) g1 0 2) rfl (pv_fa (fa_ptr (c := 0) (off := 2) (i := 2) ti59 rfl ti3 rfl)) ?_
            refine wo_val (.int .i64 a1.Volume) rfl (pv_load (ld_ptr hI rfl rfl rfl ti3 rfl)) ?_
            refine wo_val (.bool (decide (a1.Volume < 0))) rfl (pv_bin rfl rfl rfl) ?_
            refine wo_val (.bool (decide (a1.Volume < 0))) rfl pv_move ?_
            refine wo_meet 7 [(2, (.int .i64 minute)), (3, (.ptr (ix ids 0) g 0 0)), (7, (.sl 2 (List.map rSpan r2.1))), (9, (.ptr (ix ids 1) g1 0 0)), (55, (.bool ((decide (a1.Volume < 0)) || (decide (a1.Volume ≥ (a.Volumes.length : Int))))))] ?_ fun hJ2 => wo_cases (decide (a1.Volume < 0)) (fun hb5 => ?_) (fun hb5 => ?_)
            · refine wo_nil ?_
              refine wf_iteb rfl (fun hc4 => ?_) (fun hc4 => ?_)
              · refine wr_seq ?_
                refine wr_region ?_
                refine wo_val (.bool false) rfl pv_assign ?_
                refine wo_nil ?_
                exact wr_ret (a := false) (vs := [(.bool false)]) Try.func7 hI rfl (.same _)
              · refine wr_skip ?_
                refine wr_seq ?_
                refine wr_region ?_
                refine wo_val (.int .i64 minute) rfl pv_move ?_
                refine wo_val (.bool (decide (minute ≥ 0))) rfl (pv_bin rfl rfl rfl) ?_
                refine wo_val (.bool (decide (minute ≥ 0))) rfl pv_move ?_
                refine wo_meet 3 [(2, (.int .i64 minute)), (3, (.ptr (ix ids 0) g 0 0)), (7, (.sl 2 (List.map rSpan r2.1))), (9, (.ptr (ix ids 1) g1 0 0)), (61, (.bool ((decide (minute ≥ 0)) && (decide (minute < 1440)))))] ?_ fun hJ3 => wo_cases (decide (minute ≥ 0)) (fun hb7 => ?_) (fun hb7 => ?_)
                · refine wo_val (.bool ((decide (minute ≥ 0)) && (decide (minute < 1440)))) rfl pv_move ?_
                  refine wo_join 11 ((fun (b : Bool) => (if b then (idx a.Volumes a1.Volume).bind fun a2 =>
  (law11_in a2.Closed minute).bind fun r4 =>
  R.ok (!r4) else R.ok false).bind (fun (b2 : Bool) => (hours_Has r2.1 minute).bind fun r5 =>
  .ok (r5 == b2))) : Bool → R Bool) (fun (b : Bool) (fr : Nat → AV) (h : AHeap) => fr = frA [(2, (.int .i64 minute)), (3, (.ptr (ix ids 0) g 0 0)), (7, (.sl 2 (List.map rSpan r2.1))), (9, (.ptr (ix ids 1) g1 0 0)), (73, (.bool b))] ∧ h = hp h0 ids [(some (.rows g 8 [(rAirspace a)])), (some (.rows g1 5 [(rSegment a1)]))]) ?_ fun hJ4 => of_if1 (fun hb9 => ?_) (fun hb9 => ?_)
                  · rintro b fr h ⟨rfl, rfl⟩
                    refine wo_val (.bool b) rfl pv_move ?_
                    refine wo_join 11 ((fun (b2 : Bool) => (hours_Has r2.1 minute).bind fun r5 =>
  .ok (r5 == b2)) : Bool → R Bool) (fun (b2 : Bool) (fr : Nat → AV) (h : AHeap) => fr = frA [(2, (.int .i64 minute)), (7, (.sl 2 (List.map rSpan r2.1))), (85, (.bool b2))] ∧ h = hp h0 ids [(some (.rows g 8 [(rAirspace a)])), (some (.rows g1 5 [(rSegment a1)]))]) ?_ fun hJ6 => of_if1 (fun hb13 => ?_) (fun hb13 => ?_)
                    · rintro b2 fr h ⟨rfl, rfl⟩
                      refine wo_val (.bool b2) rfl pv_assign ?_
                      refine wo_nil ?_
                      refine wr_seq ?_
                      refine wr_region ?_
                      refine wo_val (.sl 2 (List.map rSpan r2.1)) rfl pv_move ?_
                      refine wo_val (.int .i64 minute) rfl pv_move ?_
                      refine of_call [(.sl 2 (List.map rSpan r2.1)), (.int .i64 minute)] rfl rfl rfl rfl ((cp_hours_Has r2.1 minute) _) (fun v _ => wu_pan Try.func7 hI) fun r5 _ => ?_
                      refine wo_val (.bool b2) rfl pv_move ?_
                      refine wo_val (.bool (r5 == b2)) rfl (pv_bin rfl rfl (bin_beq ti4)) ?_
                      refine wo_val (.bool (r5 == b2)) rfl pv_assign ?_
                      refine wo_nil ?_
                      exact wr_ret (a := (r5 == b2)) (vs := [(.bool (r5 == b2))]) Try.func7 hI rfl (.same _)
                    · refine wo_valg (tj := 74) (.ptr (ix ids 0) g 0 0) rfl (congrArg AV.bool hb13) rfl (pv_fa (fa_ptr (c := 0) (off := 0) (i := 0) ti31 rfl ti22 rfl)) ?_
                      refine wo_valg (tj := 74) (.sl 2 (List.map rVolume a.Volumes)) rfl (congrArg AV.bool hb13) rfl (pv_load (ld_ptr hI rfl rfl rfl ti22 rfl)) ?_
                      refine wo_valg (tj := 74) (.ptr (ix ids 1) g1 0 2) rfl (congrArg AV.bool hb13) rfl (pv_fa (fa_ptr (c := 0) (off := 2) (i := 2) ti59 rfl ti3 rfl)) ?_
                      refine wo_valg (tj := 74) (.int .i64 a1.Volume) rfl (congrArg AV.bool hb13) rfl (pv_load (ld_ptr hI rfl rfl rfl ti3 rfl)) ?_
                      refine of_idx fun a2 hz1 hx2 => ?_
                      refine wo_valg (tj := 74) (.cp (rVolume a2) 0) rfl (congrArg AV.bool hb13) rfl (pv_ixa (ixa_sl ti22 ti57 rfl hz1 hx2)) ?_
                      refine wo_valg (tj := 74) (.cp (rVolume a2) 1) rfl (congrArg AV.bool hb13) rfl (pv_fa (fa_cp (c := 0) (off := 1) (i := 1) ti57 rfl ti35 rfl)) ?_
                      refine wo_valg (tj := 74) (.sl 2 (List.map rSpan a2.Closed)) rfl (congrArg AV.bool hb13) rfl (pv_load (ld_cp ti35 rfl)) ?_
                      refine wo_valg (tj := 74) (.int .i64 minute) rfl (congrArg AV.bool hb13) rfl pv_move ?_
                      refine of_call [(.sl 2 (List.map rSpan a2.Closed)), (.int .i64 minute)] rfl (wanted_yes (tj := 74) rfl (congrArg AV.bool hb13)) rfl rfl ((cp_law11_in a2.Closed minute) _) (fun v _ => wu_pan Try.func7 hI) fun r4 _ => ?_
                      refine wo_valg (tj := 74) (.bool (!r4)) rfl (congrArg AV.bool hb13) rfl (pv_un rfl) ?_
                      refine wo_val (.bool (!r4)) rfl (pv_pick (t := true) (congrArg AV.bool hb13) rfl) ?_
                      refine wo_back1 ?_
                      refine wo_is [(2, (.int .i64 minute)), (7, (.sl 2 (List.map rSpan r2.1))), (85, (.bool (!r4)))] (.cons rfl (.cons rfl (.cons rfl .nil))) ?_
                      exact hJ6 (!r4) _ _ ⟨rfl, rfl⟩
                    · refine wo_not (tj := 74) (b := false) rfl (congrArg AV.bool hb13) rfl rfl ?_
                      refine wo_not (tj := 74) (b := false) rfl (congrArg AV.bool hb13) rfl rfl ?_
                      refine wo_not (tj := 74) (b := false) rfl (congrArg AV.bool hb13) rfl rfl ?_
                      refine wo_not (tj := 74) (b := false) rfl (congrArg AV.bool hb13) rfl rfl ?_
                      refine wo_not (tj := 74) (b := false) rfl (congrArg AV.bool hb13) rfl rfl ?_
                      refine wo_not (tj := 74) (b := false) rfl (congrArg AV.bool hb13) rfl rfl ?_
                      refine wo_not (tj := 74) (b := false) rfl (congrArg AV.bool hb13) rfl rfl ?_
                      refine wo_not (tj := 74) (b := false) rfl (congrArg AV.bool hb13) rfl rfl ?_
                      refine wo_not (tj := 74) (b := false) rfl (congrArg AV.bool hb13) rfl rfl ?_
                      refine wo_not (tj := 74) (b := false) rfl (congrArg AV.bool hb13) rfl rfl ?_
                      refine wo_val (.bool false) rfl (pv_pick (t := false) (congrArg AV.bool hb13) rfl) ?_
                      refine wo_back1 ?_
                      refine wo_is [(2, (.int .i64 minute)), (7, (.sl 2 (List.map rSpan r2.1))), (85, (.bool false))] (.cons rfl (.cons rfl (.cons rfl .nil))) ?_
                      exact hJ6 false _ _ ⟨rfl, rfl⟩
                  · refine wo_valg (tj := 62) (.ptr (ix ids 1) g1 0 4) rfl (congrArg AV.bool hb9) rfl (pv_fa (fa_ptr (c := 0) (off := 4) (i := 4) ti59 rfl ti35 rfl)) ?_
                    refine wo_valg (tj := 62) (.sl 2 (List.map rSpan a1.Open)) rfl (congrArg AV.bool hb9) rfl (pv_load (ld_ptr hI rfl rfl rfl ti35 rfl)) ?_
                    refine wo_valg (tj := 62) (.int .i64 (a1.Open.length : Int)) rfl (congrArg AV.bool hb9) rfl (pv_len (len_sl ti35)) ?_
                    refine wo_valg (tj := 62) (.bool ((a1.Open.length : Int) == 0)) rfl (congrArg AV.bool hb9) rfl (pv_bin rfl rfl rfl) ?_
                    refine wo_valg (tj := 62) (.bool ((a1.Open.length : Int) == 0)) rfl (congrArg AV.bool hb9) rfl pv_move ?_
                    refine wo_join 5 ((fun (b1 : Bool) => R.ok b1) : Bool → R Bool) (fun (b1 : Bool) (fr : Nat → AV) (h : AHeap) => fr = frA [(2, (.int .i64 minute)), (3, (.ptr (ix ids 0) g 0 0)), (7, (.sl 2 (List.map rSpan r2.1))), (9, (.ptr (ix ids 1) g1 0 0)), (62, (.bool ((decide (minute ≥ 0)) && (decide (minute < 1440))))), (72, (.bool b1))] ∧ h = hp h0 ids [(some (.rows g 8 [(rAirspace a)])), (some (.rows g1 5 [(rSegment a1)]))]) ?_ fun hJ5 => of_if1 (fun hb11 => ?_) (fun hb11 => ?_)
                    · rintro b1 fr h ⟨rfl, rfl⟩
                      refine wo_val (.bool b1) rfl (pv_pick (t := true) (congrArg AV.bool hb9) rfl) ?_
                      refine wo_back1 ?_
                      refine wo_is [(2, (.int .i64 minute)), (3, (.ptr (ix ids 0) g 0 0)), (7, (.sl 2 (List.map rSpan r2.1))), (9, (.ptr (ix ids 1) g1 0 0)), (73, (.bool b1))] (.cons rfl (.cons rfl (.cons rfl (.cons rfl (.cons rfl .nil))))) ?_
                      exact hJ4 b1 _ _ ⟨rfl, rfl⟩
                    · refine wo_not (tj := 67) (b := true) rfl (congrArg AV.bool hb11) rfl rfl ?_
                      refine wo_not (tj := 67) (b := true) rfl (congrArg AV.bool hb11) rfl rfl ?_
                      refine wo_not (tj := 67) (b := true) rfl (congrArg AV.bool hb11) rfl rfl ?_
                      refine wo_not (tj := 67) (b := true) rfl (congrArg AV.bool hb11) rfl rfl ?_
                      refine wo_valg (tj := 62) (.bool true) rfl (congrArg AV.bool hb9) rfl (pv_pick (t := true) (congrArg AV.bool hb11) rfl) ?_
                      refine wo_back1 ?_
                      refine wo_is [(2, (.int .i64 minute)), (3, (.ptr (ix ids 0) g 0 0)), (7, (.sl 2 (List.map rSpan r2.1))), (9, (.ptr (ix ids 1) g1 0 0)), (62, (.bool ((decide (minute ≥ 0)) && (decide (minute < 1440))))), (72, (.bool true))] (.cons rfl (.cons rfl (.cons rfl (.cons rfl (.cons rfl (.cons rfl .nil)))))) ?_
                      exact hJ5 true _ _ ⟨rfl, rfl⟩
                    · refine wo_valg (tj := 67) (.ptr (ix ids 1) g1 0 4) rfl (congrArg AV.bool hb11) rfl (pv_fa (fa_ptr (c := 0) (off := 4) (i := 4) ti59 rfl ti35 rfl)) ?_
                      refine wo_valg (tj := 67) (.sl 2 (List.map rSpan a1.Open)) rfl (congrArg AV.bool hb11) rfl (pv_load (ld_ptr hI rfl rfl rfl ti35 rfl)) ?_
                      refine wo_valg (tj := 67) (.int .i64 minute) rfl (congrArg AV.bool hb11) rfl pv_move ?_
                      refine of_call [(.sl 2 (List.map rSpan a1.Open)), (.int .i64 minute)] rfl (wanted_yes (tj := 67) rfl (congrArg AV.bool hb11)) rfl rfl ((cp_law11_in a1.Open minute) _) (fun v _ => wu_pan Try.func7 hI) fun r3 _ => ?_
                      refine wo_valg (tj := 62) (.bool r3) rfl (congrArg AV.bool hb9) rfl (pv_pick (t := false) (congrArg AV.bool hb11) rfl) ?_
                      refine wo_back1 ?_
                      refine wo_is [(2, (.int .i64 minute)), (3, (.ptr (ix ids 0) g 0 0)), (7, (.sl 2 (List.map rSpan r2.1))), (9, (.ptr (ix ids 1) g1 0 0)), (62, (.bool ((decide (minute ≥ 0)) && (decide (minute < 1440))))), (72, (.bool r3))] (.cons rfl (.cons rfl (.cons rfl (.cons rfl (.cons rfl (.cons rfl .nil)))))) ?_
                      exact hJ5 r3 _ _ ⟨rfl, rfl⟩
                  · refine wo_not (tj := 62) (b := false) rfl (congrArg AV.bool hb9) rfl rfl ?_
                    refine wo_not (tj := 62) (b := false) rfl (congrArg AV.bool hb9) rfl rfl ?_
                    refine wo_not (tj := 62) (b := false) rfl (congrArg AV.bool hb9) rfl rfl ?_
                    refine wo_not (tj := 62) (b := false) rfl (congrArg AV.bool hb9) rfl rfl ?_
                    refine wo_not (tj := 62) (b := false) rfl (congrArg AV.bool hb9) rfl rfl ?_
                    refine wo_notu (tj := 67) rfl rfl rfl ?_
                    refine wo_notu (tj := 67) rfl rfl rfl ?_
                    refine wo_notu (tj := 67) rfl rfl rfl ?_
                    refine wo_notu (tj := 67) rfl rfl rfl ?_
                    refine wo_not (tj := 62) (b := false) rfl (congrArg AV.bool hb9) rfl rfl ?_
                    refine wo_val (.bool false) rfl (pv_pick (t := false) (congrArg AV.bool hb9) rfl) ?_
                    refine wo_back1 ?_
                    refine wo_is [(2, (.int .i64 minute)), (3, (.ptr (ix ids 0) g 0 0)), (7, (.sl 2 (List.map rSpan r2.1))), (9, (.ptr (ix ids 1) g1 0 0)), (73, (.bool false))] (.cons rfl (.cons rfl (.cons rfl (.cons rfl (.cons rfl .nil))))) ?_
                    exact hJ4 false _ _ ⟨rfl, rfl⟩
                · refine wo_valg (tj := 58) (.int .i64 minute) rfl (congrArg AV.bool hb7) rfl pv_move ?_
                  refine wo_valg (tj := 58) (.bool (decide (minute < 1440))) rfl (congrArg AV.bool hb7) rfl (pv_bin rfl rfl rfl) ?_
                  refine wo_val (.bool (decide (minute < 1440))) rfl (pv_pick (t := true) (congrArg AV.bool hb7) rfl) ?_
                  exact wo_is [(2, (.int .i64 minute)), (3, (.ptr (ix ids 0) g 0 0)), (7, (.sl 2 (List.map rSpan r2.1))), (9, (.ptr (ix ids 1) g1 0 0)), (61, (.bool ((decide (minute ≥ 0)) && (decide (minute < 1440)))))] (.cons rfl (.cons rfl (.cons rfl (.cons rfl (.cons (and_t hb7) .nil))))) hJ3
                · refine wo_not (tj := 58) (b := false) rfl (congrArg AV.bool hb7) rfl rfl ?_
                  refine wo_not (tj := 58) (b := false) rfl (congrArg AV.bool hb7) rfl rfl ?_
                  refine wo_val (.bool false) rfl (pv_pick (t := false) (congrArg AV.bool hb7) rfl) ?_
                  exact wo_is [(2, (.int .i64 minute)), (3, (.ptr (ix ids 0) g 0 0)), (7, (.sl 2 (List.map rSpan r2.1))), (9, (.ptr (ix ids 1) g1 0 0)), (61, (.bool ((decide (minute ≥ 0)) && (decide (minute < 1440)))))] (.cons rfl (.cons rfl (.cons rfl (.cons rfl (.cons (and_f hb7) .nil))))) hJ3
            · refine wo_not (tj := 48) (b := true) rfl (congrArg AV.bool hb5) rfl rfl ?_
              refine wo_not (tj := 48) (b := true) rfl (congrArg AV.bool hb5) rfl rfl ?_
              refine wo_not (tj := 48) (b := true) rfl (congrArg AV.bool hb5) rfl rfl ?_
              refine wo_not (tj := 48) (b := true) rfl (congrArg AV.bool hb5) rfl rfl ?_
              refine wo_not (tj := 48) (b := true) rfl (congrArg AV.bool hb5) rfl rfl ?_
              refine wo_not (tj := 48) (b := true) rfl (congrArg AV.bool hb5) rfl rfl ?_
              refine wo_val (.bool true) rfl (pv_pick (t := true) (congrArg AV.bool hb5) rfl) ?_
              exact wo_is [(2, (.int .i64 minute)), (3, (.ptr (ix ids 0) g 0 0)), (7, (.sl 2 (List.map rSpan r2.1))), (9, (.ptr (ix ids 1) g1 0 0)), (55, (.bool ((decide (a1.Volume < 0)) || (decide (a1.Volume ≥ (a.Volumes.length : Int))))))] (.cons rfl (.cons rfl (.cons rfl (.cons rfl (.cons (or_t hb5) .nil))))) hJ2
            · refine wo_valg (tj := 48) (.ptr (ix ids 1) g1 0 2) rfl (congrArg AV.bool hb5) rfl (pv_fa (fa_ptr (c := 0) (off := 2) (i := 2) ti59 rfl ti3 rfl)) ?_
              refine wo_valg (tj := 48) (.int .i64 a1.Volume) rfl (congrArg AV.bool hb5) rfl (pv_load (ld_ptr hI rfl rfl rfl ti3 rfl)) ?_
              refine wo_valg (tj := 48) (.ptr (ix ids 0) g 0 0) rfl (congrArg AV.bool hb5) rfl (pv_fa (fa_ptr (c := 0) (off := 0) (i := 0) ti31 rfl ti22 rfl)) ?_
              refine wo_valg (tj := 48) (.sl 2 (List.map rVolume a.Volumes)) rfl (congrArg AV.bool hb5) rfl (pv_load (ld_ptr hI rfl rfl rfl ti22 rfl)) ?_
              refine wo_valg (tj := 48) (.int .i64 (a.Volumes.length : Int)) rfl (congrArg AV.bool hb5) rfl (pv_len (len_sl ti22)) ?_
              refine wo_valg (tj := 48) (.bool (decide (a1.Volume ≥ (a.Volumes.length : Int)))) rfl (congrArg AV.bool hb5) rfl (pv_bin rfl rfl rfl) ?_
              refine wo_val (.bool (decide (a1.Volume ≥ (a.Volumes.length : Int)))) rfl (pv_pick (t := false) (congrArg AV.bool hb5) rfl) ?_
              exact wo_is [(2, (.int .i64 minute)), (3, (.ptr (ix ids 0) g 0 0)), (7, (.sl 2 (List.map rSpan r2.1))), (9, (.ptr (ix ids 1) g1 0 0)), (55, (.bool ((decide (a1.Volume < 0)) || (decide (a1.Volume ≥ (a.Volumes.length : Int))))))] (.cons rfl (.cons rfl (.cons rfl (.cons rfl (.cons (or_f hb5) .nil))))) hJ2
        · refine wo_not (tj := 33) (b := true) rfl (congrArg AV.bool hb3) rfl rfl ?_
          refine wo_not (tj := 33) (b := true) rfl (congrArg AV.bool hb3) rfl rfl ?_
          refine wo_not (tj := 33) (b := true) rfl (congrArg AV.bool hb3) rfl rfl ?_
          refine wo_not (tj := 33) (b := true) rfl (congrArg AV.bool hb3) rfl rfl ?_
          refine wo_not (tj := 33) (b := true) rfl (congrArg AV.bool hb3) rfl rfl ?_
          refine wo_val (.bool true) rfl (pv_pick (t := true) (congrArg AV.bool hb3) rfl) ?_
          exact wo_is [(1, (.int .i64 segment)), (2, (.int .i64 minute)), (3, (.ptr (ix ids 0) g 0 0)), (7, (.sl 2 (List.map rSpan r2.1))), (39, (.bool ((decide (segment < 0)) || (decide (segment ≥ (a.Segments.length : Int))))))] (.cons rfl (.cons rfl (.cons rfl (.cons rfl (.cons (or_t hb3) .nil))))) hJ1
        · refine wo_valg (tj := 33) (.int .i64 segment) rfl (congrArg AV.bool hb3) rfl pv_move ?_
          refine wo_valg (tj := 33) (.ptr (ix ids 0) g 0 3) rfl (congrArg AV.bool hb3) rfl (pv_fa (fa_ptr (c := 0) (off := 3) (i := 3) ti31 rfl ti25 rfl)) ?_
          refine wo_valg (tj := 33) (.sl 5 (List.map rSegment a.Segments)) rfl (congrArg AV.bool hb3) rfl (pv_load (ld_ptr hI rfl rfl rfl ti25 rfl)) ?_
          refine wo_valg (tj := 33) (.int .i64 (a.Segments.length : Int)) rfl (congrArg AV.bool hb3) rfl (pv_len (len_sl ti25)) ?_
          refine wo_valg (tj := 33) (.bool (decide (segment ≥ (a.Segments.length : Int)))) rfl (congrArg AV.bool hb3) rfl (pv_bin rfl rfl rfl) ?_
          refine wo_val (.bool (decide (segment ≥ (a.Segments.length : Int)))) rfl (pv_pick (t := false) (congrArg AV.bool hb3) rfl) ?_
          exact wo_is [(1, (.int .i64 segment)), (2, (.int .i64 minute)), (3, (.ptr (ix ids 0) g 0 0)), (7, (.sl 2 (List.map rSpan r2.1))), (39, (.bool ((decide (segment < 0)) || (decide (segment ≥ (a.Segments.length : Int))))))] (.cons rfl (.cons rfl (.cons rfl (.cons rfl (.cons (or_f hb3) .nil))))) hJ1
    · refine wr_seq ?_
      refine wr_region ?_
      refine wo_val (.bool true) rfl pv_assign ?_
      refine wo_nil ?_
      exact wr_ret (a := true) (vs := [(.bool true)]) Try.func7 hI rfl (.same _)
  · refine wr_seq ?_
    refine wr_region ?_
    refine wo_val (.bool false) rfl pv_assign ?_
    refine wo_nil ?_
    exact wr_ret (a := false) (vs := [(.bool false)]) Try.func7 hI rfl (.same _)
end Go.Am

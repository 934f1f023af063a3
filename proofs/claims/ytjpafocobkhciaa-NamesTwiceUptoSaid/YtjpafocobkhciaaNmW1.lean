/- The models hold of the program. Written by dc.py. -/
import Derived.Test.YtjpafocobkhciaaNmW0
namespace Go.Am
open Go Go.Proofs
set_option maxRecDepth 100000
set_option linter.unusedSimpArgs false
set_option linter.unusedVariables false
theorem cp_ref08_Same (a : Airspace) (b : Airspace) : CP Try.prog 14 [(.agg (rAirspace a)), (.agg (rAirspace b))] (ref08_Same a b) (fun (x : Bool) => (AV.bool x)) := by
  refine cp_intro (n := 422) 12 Try.func14 rfl (by decide) rfl rfl fun h0 ids hI => ?_
  refine wr_in (wr_mod (ref08_Same.eq_1 _ _) ?_)
  refine wr_seq ?_
  refine wr_region ?_
  refine wo_box (v := (.agg (rAirspace a))) (j := 0) hI rfl rfl rfl rfl rfl rfl rfl fun g => ?_
  refine wo_box (v := (.agg (rAirspace b))) (j := 1) hI rfl rfl rfl rfl rfl rfl rfl fun g1 => ?_
  refine wo_val (.bool false) rfl pv_assign ?_
  refine wo_nil ?_
  refine wr_hp [(some (.rows g 8 [(rAirspace a)])), (some (.rows g1 8 [(rAirspace b)])), none, none, none, none, none, none, none, none, none, none] rfl ?_
  refine wr_seq ?_
  refine wr_seq ?_
  refine wr_region ?_
  refine wo_val (.ptr (ix ids 0) g 0 0) rfl (pv_fa (fa_ptr (c := 0) (off := 0) (i := 0) ti31 rfl ti22 rfl)) ?_
  refine wo_val (.sl 2 (List.map rVolume a.Volumes)) rfl (pv_load (ld_ptr hI rfl rfl rfl ti22 rfl)) ?_
  refine wo_val (.int .i64 (a.Volumes.length : Int)) rfl (pv_len (len_sl ti22)) ?_
  refine wo_val (.ptr (ix ids 1) g1 0 0) rfl (pv_fa (fa_ptr (c := 0) (off := 0) (i := 0) ti31 rfl ti22 rfl)) ?_
  refine wo_val (.sl 2 (List.map rVolume b.Volumes)) rfl (pv_load (ld_ptr hI rfl rfl rfl ti22 rfl)) ?_
  refine wo_val (.int .i64 (b.Volumes.length : Int)) rfl (pv_len (len_sl ti22)) ?_
  refine wo_val (.bool ((a.Volumes.length : Int) != (b.Volumes.length : Int))) rfl (pv_bin rfl rfl rfl) ?_
  refine wo_val (.bool ((a.Volumes.length : Int) != (b.Volumes.length : Int))) rfl pv_move ?_
  refine wo_meet 8 [(2, (.ptr (ix ids 0) g 0 0)), (3, (.ptr (ix ids 1) g1 0 0)), (39, (.bool (((a.Volumes.length : Int) != (b.Volumes.length : Int)) || ((a.Sectors.length : Int) != (b.Sectors.length : Int)))))] ?_ fun hJ => wo_cases ((a.Volumes.length : Int) != (b.Volumes.length : Int)) (fun hb1 => ?_) (fun hb1 => ?_)
  · refine wo_val (.bool (((a.Volumes.length : Int) != (b.Volumes.length : Int)) || ((a.Sectors.length : Int) != (b.Sectors.length : Int)))) rfl pv_move ?_
    refine wo_meet 8 [(2, (.ptr (ix ids 0) g 0 0)), (3, (.ptr (ix ids 1) g1 0 0)), (48, (.bool ((((a.Volumes.length : Int) != (b.Volumes.length : Int)) || ((a.Sectors.length : Int) != (b.Sectors.length : Int))) || ((a.Configs.length : Int) != (b.Configs.length : Int)))))] ?_ fun hJ1 => wo_cases (((a.Volumes.length : Int) != (b.Volumes.length : Int)) || ((a.Sectors.length : Int) != (b.Sectors.length : Int))) (fun hb3 => ?_) (fun hb3 => ?_)
    · refine wo_val (.bool ((((a.Volumes.length : Int) != (b.Volumes.length : Int)) || ((a.Sectors.length : Int) != (b.Sectors.length : Int))) || ((a.Configs.length : Int) != (b.Configs.length : Int)))) rfl pv_move ?_
      refine wo_meet 8 [(2, (.ptr (ix ids 0) g 0 0)), (3, (.ptr (ix ids 1) g1 0 0)), (57, (.bool (((((a.Volumes.length : Int) != (b.Volumes.length : Int)) || ((a.Sectors.length : Int) != (b.Sectors.length : Int))) || ((a.Configs.length : Int) != (b.Configs.length : Int))) || ((a.Segments.length : Int) != (b.Segments.length : Int)))))] ?_ fun hJ2 => wo_cases ((((a.Volumes.length : Int) != (b.Volumes.length : Int)) || ((a.Sectors.length : Int) != (b.Sectors.length : Int))) || ((a.Configs.length : Int) != (b.Configs.length : Int))) (fun hb5 => ?_) (fun hb5 => ?_)
      · refine wo_val (.bool (((((a.Volumes.length : Int) != (b.Volumes.length : Int)) || ((a.Sectors.length : Int) != (b.Sectors.length : Int))) || ((a.Configs.length : Int) != (b.Configs.length : Int))) || ((a.Segments.length : Int) != (b.Segments.length : Int)))) rfl pv_move ?_
        refine wo_meet 8 [(2, (.ptr (ix ids 0) g 0 0)), (3, (.ptr (ix ids 1) g1 0 0)), (66, (.bool ((((((a.Volumes.length : Int) != (b.Volumes.length : Int)) || ((a.Sectors.length : Int) != (b.Sectors.length : Int))) || ((a.Configs.length : Int) != (b.Configs.length : Int))) || ((a.Segments.length : Int) != (b.Segments.length : Int))) || ((a.Routes.length : Int) != (b.Routes.length : Int)))))] ?_ fun hJ3 => wo_cases (((((a.Volumes.length : Int) != (b.Volumes.length : Int)) || ((a.Sectors.length : Int) != (b.Sectors.length : Int))) || ((a.Configs.length : Int) != (b.Configs.length : Int))) || ((a.Segments.length : Int) != (b.Segments.length : Int))) (fun hb7 => ?_) (fun hb7 => ?_)
        · refine wo_val (.bool ((((((a.Volumes.length : Int) != (b.Volumes.length : Int)) || ((a.Sectors.length : Int) != (b.Sectors.length : Int))) || ((a.Configs.length : Int) != (b.Configs.length : Int))) || ((a.Segments.length : Int) != (b.Segments.length : Int))) || ((a.Routes.length : Int) != (b.Routes.length : Int)))) rfl pv_move ?_
          refine wo_meet 8 [(2, (.ptr (ix ids 0) g 0 0)), (3, (.ptr (ix ids 1) g1 0 0)), (75, (.bool (((((((a.Volumes.length : Int) != (b.Volumes.length : Int)) || ((a.Sectors.length : Int) != (b.Sectors.length : Int))) || ((a.Configs.length : Int) != (b.Configs.length : Int))) || ((a.Segments.length : Int) != (b.Segments.length : Int))) || ((a.Routes.length : Int) != (b.Routes.length : Int))) || ((a.Airports.length : Int) != (b.Airports.length : Int)))))] ?_ fun hJ4 => wo_cases ((((((a.Volumes.length : Int) != (b.Volumes.length : Int)) || ((a.Sectors.length : Int) != (b.Sectors.length : Int))) || ((a.Configs.length : Int) != (b.Configs.length : Int))) || ((a.Segments.length : Int) != (b.Segments.length : Int))) || ((a.Routes.length : Int) != (b.Routes.length : Int))) (fun hb9 => ?_) (fun hb9 => ?_)
          · refine wo_val (.bool (((((((a.Volumes.length : Int) != (b.Volumes.length : Int)) || ((a.Sectors.length : Int) != (b.Sectors.length : Int))) || ((a.Configs.length : Int) != (b.Configs.length : Int))) || ((a.Segments.length : Int) != (b.Segments.length : Int))) || ((a.Routes.length : Int) != (b.Routes.length : Int))) || ((a.Airports.length : Int) != (b.Airports.length : Int)))) rfl pv_move ?_
            refine wo_meet 8 [(2, (.ptr (ix ids 0) g 0 0)), (3, (.ptr (ix ids 1) g1 0 0)), (84, (.bool ((((((((a.Volumes.length : Int) != (b.Volumes.length : Int)) || ((a.Sectors.length : Int) != (b.Sectors.length : Int))) || ((a.Configs.length : Int) != (b.Configs.length : Int))) || ((a.Segments.length : Int) != (b.Segments.length : Int))) || ((a.Routes.length : Int) != (b.Routes.length : Int))) || ((a.Airports.length : Int) != (b.Airports.length : Int))) || ((a.Classes.length : Int) != (b.Classes.length : Int)))))] ?_ fun hJ5 => wo_cases (((((((a.Volumes.length : Int) != (b.Volumes.length : Int)) || ((a.Sectors.length : Int) != (b.Sectors.length : Int))) || ((a.Configs.length : Int) != (b.Configs.length : Int))) || ((a.Segments.length : Int) != (b.Segments.length : Int))) || ((a.Routes.length : Int) != (b.Routes.length : Int))) || ((a.Airports.length : Int) != (b.Airports.length : Int))) (fun hb11 => ?_) (fun hb11 => ?_)
            · refine wo_val (.bool ((((((((a.Volumes.length : Int) != (b.Volumes.length : Int)) || ((a.Sectors.length : Int) != (b.Sectors.length : Int))) || ((a.Configs.length : Int) != (b.Configs.length : Int))) || ((a.Segments.length : Int) != (b.Segments.length : Int))) || ((a.Routes.length : Int) != (b.Routes.length : Int))) || ((a.Airports.length : Int) != (b.Airports.length : Int))) || ((a.Classes.length : Int) != (b.Classes.length : Int)))) rfl pv_move ?_
              refine wo_meet 8 [(2, (.ptr (ix ids 0) g 0 0)), (3, (.ptr (ix ids 1) g1 0 0)), (93, (.bool (((((((((a.Volumes.length : Int) != (b.Volumes.length : Int)) || ((a.Sectors.length : Int) != (b.Sectors.length : Int))) || ((a.Configs.length : Int) != (b.Configs.length : Int))) || ((a.Segments.length : Int) != (b.Segments.length : Int))) || ((a.Routes.length : Int) != (b.Routes.length : Int))) || ((a.Airports.length : Int) != (b.Airports.length : Int))) || ((a.Classes.length : Int) != (b.Classes.length : Int))) || ((a.Rules.length : Int) != (b.Rules.length : Int)))))] ?_ fun hJ6 => wo_cases ((((((((a.Volumes.length : Int) != (b.Volumes.length : Int)) || ((a.Sectors.length : Int) != (b.Sectors.length : Int))) || ((a.Configs.length : Int) != (b.Configs.length : Int))) || ((a.Segments.length : Int) != (b.Segments.length : Int))) || ((a.Routes.length : Int) != (b.Routes.length : Int))) || ((a.Airports.length : Int) != (b.Airports.length : Int))) || ((a.Classes.length : Int) != (b.Classes.length : Int))) (fun hb13 => ?_) (fun hb13 => ?_)
              · refine wo_nil ?_
                refine wf_iteb rfl (fun hc => ?_) (fun hc => ?_)
                · refine wr_seq ?_
                  refine wr_region ?_
                  refine wo_val (.bool false) rfl pv_assign ?_
                  refine wo_nil ?_
                  exact wr_ret (a := false) (vs := [(.bool false)]) Try.func14 hI rfl (.same _)
                · refine wr_skip ?_
                  refine wr_seq ?_
                  refine wr_seq ?_
                  refine wr_region ?_
                  refine wo_val (.int .i64 0) rfl pv_assign ?_
                  refine wo_nil ?_
                  refine wr_block ?_
                  refine wr_is [(2, (.ptr (ix ids 0) g 0 0)), (3, (.ptr (ix ids 1) g1 0 0)), (5, (.int .i64 0))] (.cons rfl (.cons rfl (.cons rfl .nil))) ?_
                  refine wf_each' (P := Try.prog) a.Volumes (fun j a1 => fun _ => ref08_Same_b1 b j a1) ((alt (fun _ => (each (fun j1 a3 => fun _ => ref08_Same_b2 b j1 a3) 0 a.Sectors ()).bind (alt (fun _ => (each (fun j2 a5 => fun _ => ref08_Same_b3 b j2 a5) 0 a.Configs ()).bind (alt (fun _ => (each (fun j3 a7 => fun _ => ref08_Same_b4 b j3 a7) 0 a.Segments ()).bind (alt (fun _ => (each (fun j4 a9 => fun _ => ref08_Same_b5 b j4 a9) 0 a.Routes ()).bind (alt (fun _ => (each (fun j5 a11 => fun _ => ref08_Same_b7 b j5 a11) 0 a.Airports ()).bind (alt (fun _ => (each (fun j7 a15 => fun _ => ref08_Same_b8 b j7 a15) 0 a.Classes ()).bind (alt (fun _ => (each (fun j8 a17 => fun _ => ref08_Same_b9 b j8 a17) 0 a.Rules ()).bind (alt (fun _ => .ok true) (fun r => .ok r))) (fun r => .ok r))) (fun r => .ok r))) (fun r => .ok r))) (fun r => .ok r))) (fun r => .ok r))) (fun r => .ok r))) (fun r => .ok r)) : (Unit ⊕ Bool) → R Bool)
                    (fun j => fun _ => fun (fr : Nat → AV) (h : AHeap) => fr = frA [(2, (.ptr (ix ids 0) g 0 0)), (3, (.ptr (ix ids 1) g1 0 0)), (5, (.int .i64 (j : Int)))] ∧ h = hp h0 ids [(some (.rows g 8 [(rAirspace a)])), (some (.rows g1 8 [(rAirspace b)])), none, none, none, none, none, none, none, none, none, none]) () ?_ ?_ ?_
                  · exact ⟨rfl, rfl⟩
                  · rintro j a1 ha1 W hW _ fr h ⟨rfl, rfl⟩
                    refine wr_mod (m' := ref08_Same_b1 b j a1) rfl (wr_mod (ref08_Same_b1.eq_1 _ _ _) ?_)
                    refine wr_seq ?_
                    refine wr_seq ?_
                    refine wr_region ?_
                    refine wo_val (.int .i64 (j : Int)) rfl pv_move ?_
                    refine wo_val (.ptr (ix ids 0) g 0 0) rfl (pv_fa (fa_ptr (c := 0) (off := 0) (i := 0) ti31 rfl ti22 rfl)) ?_
                    refine wo_val (.sl 2 (List.map rVolume a.Volumes)) rfl (pv_load (ld_ptr hI rfl rfl rfl ti22 rfl)) ?_
                    refine wo_val (.int .i64 (a.Volumes.length : Int)) rfl (pv_len (len_sl ti22)) ?_
                    refine wo_val (.bool (decide ((j : Int) < (a.Volumes.length : Int)))) rfl (pv_bin rfl rfl rfl) ?_
                    refine wo_nil ?_
                    refine wr_lim (t := 96) (L := a.Volumes) rfl fun hlim1 => ?_
                    refine wr_condT rfl (Int.ofNat_lt.2 (lt_of_get ha1)) ?_
                    refine wr_skip ?_
                    refine wr_seq ?_
                    refine wr_block ?_
                    refine wr_seq ?_
                    refine wf_join (fun x1 => ref08_Same_j1 x1) (fun x1 => fun (fr : Nat → AV) (h : AHeap) => fr = frA [(2, (.ptr (ix ids 0) g 0 0)), (3, (.ptr (ix ids 1) g1 0 0)), (5, (.int .i64 (j : Int))), (129, (.bool x1))] ∧ h = hp h0 ids [(some (.rows g 8 [(rAirspace a)])), (some (.rows g1 8 [(rAirspace b)])), none, none, none, none, none, none, none, none, none, none]) ?_ fun hJ7 => ?_
                    · rintro x1 fr h ⟨rfl, rfl⟩
                      refine wr_mod (ref08_Same_j1.eq_1 _) ?_
                      refine wf_iteb rfl (fun hc1 => ?_) (fun hc1 => ?_)
                      · refine wr_seq ?_
                        refine wr_region ?_
                        refine wo_val (.bool false) rfl pv_assign ?_
                        refine wo_nil ?_
                        refine wx_each ?_
                        refine w_altr ?_
                        exact wr_ret (a := false) (vs := [(.bool false)]) Try.func14 hI rfl (.same _)
                      · refine wr_skip ?_
                        refine wr_inBlock ?_
                        refine wr_region ?_
                        refine wo_val (.int .i64 (j : Int)) rfl pv_move ?_
                        refine wo_val (.int .i64 (IntKind.wrap .i64 ((j : Int) + 1))) rfl (pv_bin rfl rfl rfl) ?_
                        refine wo_val (.int .i64 (IntKind.wrap .i64 ((j : Int) + 1))) rfl pv_assign ?_
                        refine wo_nil ?_
                        refine wr_is [(2, (.ptr (ix ids 0) g 0 0)), (3, (.ptr (ix ids 1) g1 0 0)), (5, (.int .i64 ((j + 1 : Nat) : Int)))] (.cons rfl (.cons rfl (.cons (inc_ok (lt_of_get ha1) hlim1) .nil))) ?_
                        refine wb_each ?_
                        refine hW () _ _ ?_
                        exact ⟨rfl, rfl⟩
                    · refine wr_draw hmix [[], [0], [], [0, 1, 2], [0, 1, 2, 3], [0, 1, 2, 3, 4], [], [6], [], [6, 7, 8], [6, 7, 8, 9], [6, 7, 8, 9, 10], [0, 1, 2, 3, 4, 5, 6, 7, 8, 9, 10, 11], [0, 1, 2, 3, 4, 5, 6, 7, 8, 9, 10, 11, 12], [0, 1, 2, 3, 4, 5, 6, 7, 8, 9, 10, 11, 12, 13], [0, 1, 2, 3, 4, 5, 6, 7, 8, 9, 10, 11, 12, 13, 14], [0, 1, 2, 3, 4, 5, 6, 7, 8, 9, 10, 11, 12, 13], [0, 1, 2, 3, 4, 5, 6, 7, 8, 9, 10, 11, 12, 13, 14, 15, 16], [0, 1, 2, 3, 4, 5, 6, 7, 8, 9, 10, 11, 12, 13, 14, 15, 16, 17], [0, 1, 2, 3, 4, 5, 6, 7, 8, 9, 10, 11, 12, 13, 14, 15, 16, 17, 18], [0, 1, 2, 3, 4, 5, 6, 7, 8, 9, 10, 11, 12, 13], [0, 1, 2, 3, 4, 5, 6, 7, 8, 9, 10, 11, 12, 13, 20], [0, 1, 2, 3, 4, 5, 6, 7, 8, 9, 10, 11, 12, 13], [0, 1, 2, 3, 4, 5, 6, 7, 8, 9, 10, 11, 12, 13, 20, 21, 22], [0, 1, 2, 3, 4, 5, 6, 7, 8, 9, 10, 11, 12, 13, 20, 21, 22, 23], [0, 1, 2, 3, 4, 5, 6, 7, 8, 9, 10, 11, 12, 13, 20, 21, 22, 23, 24], [0, 1, 2, 3, 4, 5, 6, 7, 8, 9, 10, 11, 12, 13, 14, 15, 16, 17, 18, 19, 20, 21, 22, 23, 24, 25], [0, 1, 2, 3, 4, 5, 6, 7, 8, 9, 10, 11, 12, 13, 14, 15, 16, 17, 18, 19, 20, 21, 22, 23, 24, 25, 26], [0, 1, 2, 3, 4, 5, 6, 7, 8, 9, 10, 11, 12, 13, 14, 15, 16, 17, 18, 19, 20, 21, 22, 23, 24, 25, 26, 27]] [(false, 0), (false, 1), (false, 2), (false, 3), (false, 4), (false, 5), (false, 6), (false, 7), (false, 8), (false, 9), (false, 10), (false, 11), (false, 12), (false, 13), (false, 14), (false, 15), (false, 16), (false, 17), (false, 18), (false, 19), (false, 20), (false, 21), (false, 22), (false, 23), (false, 24), (false, 25), (true, 26), (false, 27), (false, 28)] (by kernel_rfl) ?_
                      refine wp_val (.ptr (ix ids 0) g 0 0) rfl rfl (pv_fa (fa_ptr (c := 0) (off := 0) (i := 0) ti31 rfl ti22 rfl)) ?_
                      refine wp_val (.sl 2 (List.map rVolume a.Volumes)) rfl rfl (pv_load (ld_ptr hI rfl rfl rfl ti22 rfl)) ?_
                      refine wp_val (.int .i64 (j : Int)) rfl rfl pv_move ?_
                      refine wp_val (.cp (rVolume a1) 0) rfl rfl (pv_ixa (ixa_nat ti22 ti41 rfl ha1)) ?_
                      refine wp_val (.cp (rVolume a1) 0) rfl rfl (pv_fa (fa_cp (c := 0) (off := 0) (i := 0) ti41 rfl ti9 rfl)) ?_
                      refine wp_val (.str a1.Name) rfl rfl (pv_load (ld_cp ti9 rfl)) ?_
                      refine wp_val (.ptr (ix ids 1) g1 0 0) rfl rfl (pv_fa (fa_ptr (c := 0) (off := 0) (i := 0) ti31 rfl ti22 rfl)) ?_
                      refine wp_val (.sl 2 (List.map rVolume b.Volumes)) rfl rfl (pv_load (ld_ptr hI rfl rfl rfl ti22 rfl)) ?_
                      refine wp_val (.int .i64 (j : Int)) rfl rfl pv_move ?_
                      refine op_idx fun a2 hz hx1 => ?_
                      refine wp_val (.cp (rVolume a2) 0) rfl rfl (pv_ixa (ixa_sl ti22 ti41 rfl hz hx1)) ?_
                      refine wp_val (.cp (rVolume a2) 0) rfl rfl (pv_fa (fa_cp (c := 0) (off := 0) (i := 0) ti41 rfl ti9 rfl)) ?_
                      refine wp_val (.str a2.Name) rfl rfl (pv_load (ld_cp ti9 rfl)) ?_
                      refine wp_val (.bool (!(a1.Name == a2.Name))) rfl rfl (pv_bin rfl rfl rfl) ?_
                      refine wp_val (.bool (!(a1.Name == a2.Name))) rfl rfl pv_move ?_
                      refine op_iteb (fun hb14 => ?_) (fun hb14 => ?_)
                      · refine wp_not (tj := 114) (b := true) rfl rfl (congrArg AV.bool hb14) rfl rfl ?_
                        refine wp_not (tj := 114) (b := true) rfl rfl (congrArg AV.bool hb14) rfl rfl ?_
                        refine wp_not (tj := 114) (b := true) rfl rfl (congrArg AV.bool hb14) rfl rfl ?_
                        refine wp_not (tj := 114) (b := true) rfl rfl (congrArg AV.bool hb14) rfl rfl ?_
                        refine wp_not (tj := 114) (b := true) rfl rfl (congrArg AV.bool hb14) rfl rfl ?_
                        refine wp_not (tj := 114) (b := true) rfl rfl (congrArg AV.bool hb14) rfl rfl ?_
                        refine wp_not (tj := 114) (b := true) rfl rfl (congrArg AV.bool hb14) rfl rfl ?_
                        refine wp_not (tj := 114) (b := true) rfl rfl (congrArg AV.bool hb14) rfl rfl ?_
                        refine wp_not (tj := 114) (b := true) rfl rfl (congrArg AV.bool hb14) rfl rfl ?_
                        refine wp_not (tj := 114) (b := true) rfl rfl (congrArg AV.bool hb14) rfl rfl ?_
                        refine wp_not (tj := 114) (b := true) rfl rfl (congrArg AV.bool hb14) rfl rfl ?_
                        refine wp_not (tj := 114) (b := true) rfl rfl (congrArg AV.bool hb14) rfl rfl ?_
                        refine wp_notE (tj := 114) (b := true) rfl rfl (congrArg AV.bool hb14) rfl rfl ?_
                        refine wp_not (tj := 114) (b := true) rfl rfl (congrArg AV.bool hb14) rfl rfl ?_
                        refine wp_val (.bool true) rfl rfl (pv_pick (t := true) (congrArg AV.bool hb14) rfl) ?_
                        refine wp_nil ?_
                        refine wr_is [(2, (.ptr (ix ids 0) g 0 0)), (3, (.ptr (ix ids 1) g1 0 0)), (5, (.int .i64 (j : Int))), (129, (.bool true))] (.cons rfl (.cons rfl (.cons rfl (.cons rfl .nil)))) ?_
                        refine hJ7 true _ _ ?_
                        exact ⟨rfl, rfl⟩
                      · refine wp_valg (tj := 114) (.ptr (ix ids 0) g 0 0) rfl rfl (congrArg AV.bool hb14) rfl (pv_fa (fa_ptr (c := 0) (off := 0) (i := 0) ti31 rfl ti22 rfl)) ?_
                        refine wp_valg (tj := 114) (.sl 2 (List.map rVolume a.Volumes)) rfl rfl (congrArg AV.bool hb14) rfl (pv_load (ld_ptr hI rfl rfl rfl ti22 rfl)) ?_
                        refine wp_valg (tj := 114) (.int .i64 (j : Int)) rfl rfl (congrArg AV.bool hb14) rfl pv_move ?_
                        refine wp_valg (tj := 114) (.cp (rVolume a1) 0) rfl rfl (congrArg AV.bool hb14) rfl (pv_ixa (ixa_nat ti22 ti41 rfl ha1)) ?_
                        refine wp_valg (tj := 114) (.cp (rVolume a1) 1) rfl rfl (congrArg AV.bool hb14) rfl (pv_fa (fa_cp (c := 0) (off := 1) (i := 1) ti41 rfl ti39 rfl)) ?_
                        refine wp_valg (tj := 114) (.sl 2 (List.map rSpan a1.Closed)) rfl rfl (congrArg AV.bool hb14) rfl (pv_load (ld_cp ti39 rfl)) ?_
                        refine wp_valg (tj := 114) (.ptr (ix ids 1) g1 0 0) rfl rfl (congrArg AV.bool hb14) rfl (pv_fa (fa_ptr (c := 0) (off := 0) (i := 0) ti31 rfl ti22 rfl)) ?_
                        refine wp_valg (tj := 114) (.sl 2 (List.map rVolume b.Volumes)) rfl rfl (congrArg AV.bool hb14) rfl (pv_load (ld_ptr hI rfl rfl rfl ti22 rfl)) ?_
                        refine wp_valg (tj := 114) (.int .i64 (j : Int)) rfl rfl (congrArg AV.bool hb14) rfl pv_move ?_
                        refine wp_valg (tj := 114) (.cp (rVolume a2) 0) rfl rfl (congrArg AV.bool hb14) rfl (pv_ixa (ixa_sl ti22 ti41 rfl hz hx1)) ?_
                        refine wp_valg (tj := 114) (.cp (rVolume a2) 1) rfl rfl (congrArg AV.bool hb14) rfl (pv_fa (fa_cp (c := 0) (off := 1) (i := 1) ti41 rfl ti39 rfl)) ?_
                        refine wp_valg (tj := 114) (.sl 2 (List.map rSpan a2.Closed)) rfl rfl (congrArg AV.bool hb14) rfl (pv_load (ld_cp ti39 rfl)) ?_
                        refine wp_call [(.sl 2 (List.map rSpan a1.Closed)), (.sl 2 (List.map rSpan a2.Closed))] rfl (wanted_yes (tj := 114) rfl (congrArg AV.bool hb14)) rfl rfl rfl ((cp_ref08_SameSpans a1.Closed a2.Closed) _) (fun v _ _ _ => wu_pan Try.func14 hI) (pend_yes rfl (pend_yes rfl (pend_yes rfl (pend_yes rfl (pend_yes rfl (pend_yes rfl (pend_yes rfl (pend_yes rfl (pend_yes rfl (pend_yes rfl (pend_yes rfl (pend_yes rfl (pend_yes rfl (pend_yes rfl (pend_yes rfl (pend_yes rfl (pend_yes rfl (pend_yes rfl (pend_yes rfl (pend_yes rfl (pend_yes rfl (pend_yes rfl (pend_yes rfl (pend_yes rfl (pend_yes rfl (pend_yes rfl pend_nil)))))))))))))))))))))))))) fun r _ => ?_
                        refine wp_valg (tj := 114) (.bool (!r)) rfl rfl (congrArg AV.bool hb14) rfl (pv_un rfl) ?_
                        refine wp_val (.bool (!r)) rfl rfl (pv_pick (t := false) (congrArg AV.bool hb14) rfl) ?_
                        refine wp_nil ?_
                        refine wr_is [(2, (.ptr (ix ids 0) g 0 0)), (3, (.ptr (ix ids 1) g1 0 0)), (5, (.int .i64 (j : Int))), (129, (.bool (!r)))] (.cons rfl (.cons rfl (.cons rfl (.cons rfl .nil)))) ?_
                        refine hJ7 (!r) _ _ ?_
                        exact ⟨rfl, rfl⟩
                  · rintro _ fr h ⟨rfl, rfl⟩
                    refine wr_mod (alt_inl _ _ _) ?_
                    refine wr_seq ?_
                    refine wr_seq ?_
                    refine wr_region ?_
                    refine wo_val (.int .i64 (a.Volumes.length : Int)) rfl pv_move ?_
                    refine wo_val (.ptr (ix ids 0) g 0 0) rfl (pv_fa (fa_ptr (c := 0) (off := 0) (i := 0) ti31 rfl ti22 rfl)) ?_
                    refine wo_val (.sl 2 (List.map rVolume a.Volumes)) rfl (pv_load (ld_ptr hI rfl rfl rfl ti22 rfl)) ?_
                    refine wo_val (.int .i64 (a.Volumes.length : Int)) rfl (pv_len (len_sl ti22)) ?_
                    refine wo_val (.bool (decide ((a.Volumes.length : Int) < (a.Volumes.length : Int)))) rfl (pv_bin rfl rfl rfl) ?_
                    refine wo_nil ?_
                    refine wr_condF rfl (Int.lt_irrefl _) ?_
                    refine wr_exit rfl ?_
                    refine wr_seq ?_
                    refine wr_seq ?_
                    refine wr_region ?_
                    refine wo_val (.int .i64 0) rfl pv_assign ?_
                    refine wo_nil ?_
                    refine wr_block ?_
                    refine wr_is [(2, (.ptr (ix ids 0) g 0 0)), (3, (.ptr (ix ids 1) g1 0 0)), (6, (.int .i64 0))] (.cons rfl (.cons rfl (.cons rfl .nil))) ?_
                    refine wf_each' (P := Try.prog) a.Sectors (fun j1 a3 => fun _ => ref08_Same_b2 b j1 a3) ((alt (fun _ => (each (fun j2 a5 => fun _ => ref08_Same_b3 b j2 a5) 0 a.Configs ()).bind (alt (fun _ => (each (fun j3 a7 => fun _ => ref08_Same_b4 b j3 a7) 0 a.Segments ()).bind (alt (fun _ => (each (fun j4 a9 => fun _ => ref08_Same_b5 b j4 a9) 0 a.Routes ()).bind (alt (fun _ => (each (fun j5 a11 => fun _ => ref08_Same_b7 b j5 a11) 0 a.Airports ()).bind (alt (fun _ => (each (fun j7 a15 => fun _ => ref08_Same_b8 b j7 a15) 0 a.Classes ()).bind (alt (fun _ => (each (fun j8 a17 => fun _ => ref08_Same_b9 b j8 a17) 0 a.Rules ()).bind (alt (fun _ => .ok true) (fun r => .ok r))) (fun r => .ok r))) (fun r => .ok r))) (fun r => .ok r))) (fun r => .ok r))) (fun r => .ok r))) (fun r => .ok r)) : (Unit ⊕ Bool) → R Bool)
                      (fun j1 => fun _ => fun (fr : Nat → AV) (h : AHeap) => fr = frA [(2, (.ptr (ix ids 0) g 0 0)), (3, (.ptr (ix ids 1) g1 0 0)), (6, (.int .i64 (j1 : Int)))] ∧ h = hp h0 ids [(some (.rows g 8 [(rAirspace a)])), (some (.rows g1 8 [(rAirspace b)])), none, none, none, none, none, none, none, none, none, none]) () ?_ ?_ ?_
                    · exact ⟨rfl, rfl⟩
                    · rintro j1 a3 ha3 W hW1 _ fr h ⟨rfl, rfl⟩
                      refine wr_mod (m' := ref08_Same_b2 b j1 a3) rfl (wr_mod (ref08_Same_b2.eq_1 _ _ _) ?_)
                      refine wr_seq ?_
                      refine wr_seq ?_
                      refine wr_region ?_
                      refine wo_val (.int .i64 (j1 : Int)) rfl pv_move ?_
                      refine wo_val (.ptr (ix ids 0) g 0 1) rfl (pv_fa (fa_ptr (c := 0) (off := 1) (i := 1) ti31 rfl ti23 rfl)) ?_
                      refine wo_val (.sl 5 (List.map rSector a.Sectors)) rfl (pv_load (ld_ptr hI rfl rfl rfl ti23 rfl)) ?_
                      refine wo_val (.int .i64 (a.Sectors.length : Int)) rfl (pv_len (len_sl ti23)) ?_
                      refine wo_val (.bool (decide ((j1 : Int) < (a.Sectors.length : Int)))) rfl (pv_bin rfl rfl rfl) ?_
                      refine wo_nil ?_
                      refine wr_lim (t := 132) (L := a.Sectors) rfl fun hlim3 => ?_
                      refine wr_condT rfl (Int.ofNat_lt.2 (lt_of_get ha3)) ?_
                      refine wr_skip ?_
                      refine wr_seq ?_
                      refine wr_block ?_
                      refine wr_seq ?_
                      refine wr_region ?_
                      refine wo_val (.ptr (ix ids 0) g 0 1) rfl (pv_fa (fa_ptr (c := 0) (off := 1) (i := 1) ti31 rfl ti23 rfl)) ?_
                      refine wo_val (.sl 5 (List.map rSector a.Sectors)) rfl (pv_load (ld_ptr hI rfl rfl rfl ti23 rfl)) ?_
                      refine wo_val (.int .i64 (j1 : Int)) rfl pv_move ?_
                      refine wo_val (.cp (rSector a3) 0) rfl (pv_ixa (ixa_nat ti23 ti53 rfl ha3)) ?_
                      refine wo_val (.agg (rSector a3)) rfl (pv_load (ld_cp ti53 rfl)) ?_
                      refine wo_alloc (j := 2) hI rfl rfl rfl rfl ti53 rfl fun g2 => ?_
                      refine wo_store (st_ptr hI rfl rfl rfl rfl ti53 rfl rfl rfl rfl rfl) ?_
                      refine wo_nil ?_
                      refine wr_hp [(some (.rows g 8 [(rAirspace a)])), (some (.rows g1 8 [(rAirspace b)])), (some (.rows g2 5 [(rSector a3)])), none, none, none, none, none, none, none, none, none] rfl ?_
                      refine wr_seq ?_
                      refine wr_region ?_
                      refine wo_val (.ptr (ix ids 1) g1 0 1) rfl (pv_fa (fa_ptr (c := 0) (off := 1) (i := 1) ti31 rfl ti23 rfl)) ?_
                      refine wo_val (.sl 5 (List.map rSector b.Sectors)) rfl (pv_load (ld_ptr hI rfl rfl rfl ti23 rfl)) ?_
                      refine wo_val (.int .i64 (j1 : Int)) rfl pv_move ?_
                      refine of_idx fun a4 hz1 hx2 => ?_
                      refine wo_val (.cp (rSector a4) 0) rfl (pv_ixa (ixa_sl ti23 ti53 rfl hz1 hx2)) ?_
                      refine wo_val (.agg (rSector a4)) rfl (pv_load (ld_cp ti53 rfl)) ?_
                      refine wo_alloc (j := 3) hI rfl rfl rfl rfl ti53 rfl fun g3 => ?_
                      refine wo_store (st_ptr hI rfl rfl rfl rfl ti53 rfl rfl rfl rfl rfl) ?_
                      refine wo_nil ?_
                      refine wr_hp [(some (.rows g 8 [(rAirspace a)])), (some (.rows g1 8 [(rAirspace b)])), (some (.rows g2 5 [(rSector a3)])), (some (.rows g3 5 [(rSector a4)])), none, none, none, none, none, none, none, none] rfl ?_
                      refine wr_seq ?_
                      refine wr_region ?_
                      refine wo_val (.ptr (ix ids 2) g2 0 0) rfl (pv_fa (fa_ptr (c := 0) (off := 0) (i := 0) ti53 rfl ti9 rfl)) ?_
                      refine wo_val (.str a3.Name) rfl (pv_load (ld_ptr hI rfl rfl rfl ti9 rfl)) ?_
                      refine wo_val (.ptr (ix ids 3) g3 0 0) rfl (pv_fa (fa_ptr (c := 0) (off := 0) (i := 0) ti53 rfl ti9 rfl)) ?_
                      refine wo_val (.str a4.Name) rfl (pv_load (ld_ptr hI rfl rfl rfl ti9 rfl)) ?_
                      refine wo_val (.bool (!(a3.Name == a4.Name))) rfl (pv_bin rfl rfl rfl) ?_
                      refine wo_val (.bool (!(a3.Name == a4.Name))) rfl pv_move ?_
                      refine wo_join 7 ((fun (b1 : Bool) => (if b1 then R.ok true else (ref08_SameInts a3.Volumes a4.Volumes).bind fun r2 =>
  R.ok (!r2)).bind (fun (b2 : Bool) => if ((b2 || (a3.Radar != a4.Radar)) || (a3.Procedural != a4.Procedural)) then
(.ok (.inr (false)))
else
(.ok (.inl ())))) : Bool → R (Unit ⊕ Bool)) (fun (b1 : Bool) (fr : Nat → AV) (h : AHeap) => fr = frA [(2, (.ptr (ix ids 0) g 0 0)), (3, (.ptr (ix ids 1) g1 0 0)), (6, (.int .i64 (j1 : Int))), (7, (.ptr (ix ids 2) g2 0 0)), (8, (.ptr (ix ids 3) g3 0 0)), (159, (.bool b1))] ∧ h = hp h0 ids [(some (.rows g 8 [(rAirspace a)])), (some (.rows g1 8 [(rAirspace b)])), (some (.rows g2 5 [(rSector a3)])), (some (.rows g3 5 [(rSector a4)])), none, none, none, none, none, none, none, none]) ?_ fun hJ8 => of_if1 (fun hb16 => ?_) (fun hb16 => ?_)
                      · rintro b1 fr h ⟨rfl, rfl⟩
                        refine wo_val (.bool b1) rfl pv_move ?_
                        refine wo_join 7 ((fun (b2 : Bool) => if ((b2 || (a3.Radar != a4.Radar)) || (a3.Procedural != a4.Procedural)) then
(.ok (.inr (false)))
else
(.ok (.inl ()))) : Bool → R (Unit ⊕ Bool)) (fun (b2 : Bool) (fr : Nat → AV) (h : AHeap) => fr = frA [(2, (.ptr (ix ids 0) g 0 0)), (3, (.ptr (ix ids 1) g1 0 0)), (6, (.int .i64 (j1 : Int))), (7, (.ptr (ix ids 2) g2 0 0)), (8, (.ptr (ix ids 3) g3 0 0)), (167, (.bool b2))] ∧ h = hp h0 ids [(some (.rows g 8 [(rAirspace a)])), (some (.rows g1 8 [(rAirspace b)])), (some (.rows g2 5 [(rSector a3)])), (some (.rows g3 5 [(rSector a4)])), none, none, none, none, none, none, none, none]) ?_ fun hJ9 => of_if1 (fun hb18 => ?_) (fun hb18 => ?_)
                        · rintro b2 fr h ⟨rfl, rfl⟩
                          refine wo_val (.bool b2) rfl pv_move ?_
                          refine wo_meet 6 [(2, (.ptr (ix ids 0) g 0 0)), (3, (.ptr (ix ids 1) g1 0 0)), (6, (.int .i64 (j1 : Int))), (7, (.ptr (ix ids 2) g2 0 0)), (8, (.ptr (ix ids 3) g3 0 0)), (174, (.bool (b2 || (a3.Radar != a4.Radar))))] ?_ fun hJ10 => wo_cases b2 (fun hb20 => ?_) (fun hb20 => ?_)
                          · refine wo_val (.bool (b2 || (a3.Radar != a4.Radar))) rfl pv_move ?_
                            refine wo_meet 6 [(2, (.ptr (ix ids 0) g 0 0)), (3, (.ptr (ix ids 1) g1 0 0)), (6, (.int .i64 (j1 : Int))), (181, (.bool ((b2 || (a3.Radar != a4.Radar)) || (a3.Procedural != a4.Procedural))))] ?_ fun hJ11 => wo_cases (b2 || (a3.Radar != a4.Radar)) (fun hb22 => ?_) (fun hb22 => ?_)
                            · refine wo_nil ?_
                              refine wf_iteb rfl (fun hc2 => ?_) (fun hc2 => ?_)
                              · refine wr_seq ?_
                                refine wr_region ?_
                                refine wo_val (.bool false) rfl pv_assign ?_
                                refine wo_nil ?_
                                refine wx_each ?_
                                refine w_altr ?_
                                exact wr_ret (a := false) (vs := [(.bool false)]) Try.func14 hI rfl (.same _)
                              · refine wr_skip ?_
                                refine wr_inBlock ?_
                                refine wr_region ?_
                                refine wo_val (.int .i64 (j1 : Int)) rfl pv_move ?_
                                refine wo_val (.int .i64 (IntKind.wrap .i64 ((j1 : Int) + 1))) rfl (pv_bin rfl rfl rfl) ?_
                                refine wo_val (.int .i64 (IntKind.wrap .i64 ((j1 : Int) + 1))) rfl pv_assign ?_
                                refine wo_nil ?_
                                refine wr_drop [(some (.rows g 8 [(rAirspace a)])), (some (.rows g1 8 [(rAirspace b)])), none, none, none, none, none, none, none, none, none, none] hI rfl (.keep (.keep (.drop (.drop (.keep (.keep (.keep (.keep (.keep (.keep (.keep (.keep .nil)))))))))))) ?_
                                refine wr_is [(2, (.ptr (ix ids 0) g 0 0)), (3, (.ptr (ix ids 1) g1 0 0)), (6, (.int .i64 ((j1 + 1 : Nat) : Int)))] (.cons rfl (.cons rfl (.cons (inc_ok (lt_of_get ha3) hlim3) .nil))) ?_
                                refine wb_each ?_
                                refine hW1 () _ _ ?_
                                exact ⟨rfl, rfl⟩
                            · refine wo_not (tj := 175) (b := true) rfl (congrArg AV.bool hb22) rfl rfl ?_
                              refine wo_not (tj := 175) (b := true) rfl (congrArg AV.bool hb22) rfl rfl ?_
                              refine wo_not (tj := 175) (b := true) rfl (congrArg AV.bool hb22) rfl rfl ?_
                              refine wo_not (tj := 175) (b := true) rfl (congrArg AV.bool hb22) rfl rfl ?_
                              refine wo_not (tj := 175) (b := true) rfl (congrArg AV.bool hb22) rfl rfl ?_
                              refine wo_val (.bool true) rfl (pv_pick (t := true) (congrArg AV.bool hb22) rfl) ?_
                              exact wo_is [(2, (.ptr (ix ids 0) g 0 0)), (3, (.ptr (ix ids 1) g1 0 0)), (6, (.int .i64 (j1 : Int))), (181, (.bool ((b2 || (a3.Radar != a4.Radar)) || (a3.Procedural != a4.Procedural))))] (.cons rfl (.cons rfl (.cons rfl (.cons (or_t hb22) .nil)))) hJ11
                            · refine wo_valg (tj := 175) (.ptr (ix ids 2) g2 0 4) rfl (congrArg AV.bool hb22) rfl (pv_fa (fa_ptr (c := 0) (off := 4) (i := 4) ti53 rfl ti3 rfl)) ?_
                              refine wo_valg (tj := 175) (.int .i64 a3.Procedural) rfl (congrArg AV.bool hb22) rfl (pv_load (ld_ptr hI rfl rfl rfl ti3 rfl)) ?_
                              refine wo_valg (tj := 175) (.ptr (ix ids 3) g3 0 4) rfl (congrArg AV.bool hb22) rfl (pv_fa (fa_ptr (c := 0) (off := 4) (i := 4) ti53 rfl ti3 rfl)) ?_
                              refine wo_valg (tj := 175) (.int .i64 a4.Procedural) rfl (congrArg AV.bool hb22) rfl (pv_load (ld_ptr hI rfl rfl rfl ti3 rfl)) ?_
                              refine wo_valg (tj := 175) (.bool (a3.Procedural != a4.Procedural)) rfl (congrArg AV.bool hb22) rfl (pv_bin rfl rfl rfl) ?_
                              refine wo_val (.bool (a3.Procedural != a4.Procedural)) rfl (pv_pick (t := false) (congrArg AV.bool hb22) rfl) ?_
                              exact wo_is [(2, (.ptr (ix ids 0) g 0 0)), (3, (.ptr (ix ids 1) g1 0 0)), (6, (.int .i64 (j1 : Int))), (181, (.bool ((b2 || (a3.Radar != a4.Radar)) || (a3.Procedural != a4.Procedural))))] (.cons rfl (.cons rfl (.cons rfl (.cons (or_f hb22) .nil)))) hJ11
                          · refine wo_not (tj := 168) (b := true) rfl (congrArg AV.bool hb20) rfl rfl ?_
                            refine wo_not (tj := 168) (b := true) rfl (congrArg AV.bool hb20) rfl rfl ?_
                            refine wo_not (tj := 168) (b := true) rfl (congrArg AV.bool hb20) rfl rfl ?_
                            refine wo_not (tj := 168) (b := true) rfl (congrArg AV.bool hb20) rfl rfl ?_
                            refine wo_not (tj := 168) (b := true) rfl (congrArg AV.bool hb20) rfl rfl ?_
                            refine wo_val (.bool true) rfl (pv_pick (t := true) (congrArg AV.bool hb20) rfl) ?_
                            exact wo_is [(2, (.ptr (ix ids 0) g 0 0)), (3, (.ptr (ix ids 1) g1 0 0)), (6, (.int .i64 (j1 : Int))), (7, (.ptr (ix ids 2) g2 0 0)), (8, (.ptr (ix ids 3) g3 0 0)), (174, (.bool (b2 || (a3.Radar != a4.Radar))))] (.cons rfl (.cons rfl (.cons rfl (.cons rfl (.cons rfl (.cons (or_t hb20) .nil)))))) hJ10
                          · refine wo_valg (tj := 168) (.ptr (ix ids 2) g2 0 3) rfl (congrArg AV.bool hb20) rfl (pv_fa (fa_ptr (c := 0) (off := 3) (i := 3) ti53 rfl ti3 rfl)) ?_
                            refine wo_valg (tj := 168) (.int .i64 a3.Radar) rfl (congrArg AV.bool hb20) rfl (pv_load (ld_ptr hI rfl rfl rfl ti3 rfl)) ?_
                            refine wo_valg (tj := 168) (.ptr (ix ids 3) g3 0 3) rfl (congrArg AV.bool hb20) rfl (pv_fa (fa_ptr (c := 0) (off := 3) (i := 3) ti53 rfl ti3 rfl)) ?_
                            refine wo_valg (tj := 168) (.int .i64 a4.Radar) rfl (congrArg AV.bool hb20) rfl (pv_load (ld_ptr hI rfl rfl rfl ti3 rfl)) ?_
                            refine wo_valg (tj := 168) (.bool (a3.Radar != a4.Radar)) rfl (congrArg AV.bool hb20) rfl (pv_bin rfl rfl rfl) ?_
                            refine wo_val (.bool (a3.Radar != a4.Radar)) rfl (pv_pick (t := false) (congrArg AV.bool hb20) rfl) ?_
                            exact wo_is [(2, (.ptr (ix ids 0) g 0 0)), (3, (.ptr (ix ids 1) g1 0 0)), (6, (.int .i64 (j1 : Int))), (7, (.ptr (ix ids 2) g2 0 0)), (8, (.ptr (ix ids 3) g3 0 0)), (174, (.bool (b2 || (a3.Radar != a4.Radar))))] (.cons rfl (.cons rfl (.cons rfl (.cons rfl (.cons rfl (.cons (or_f hb20) .nil)))))) hJ10
                        · refine wo_not (tj := 160) (b := true) rfl (congrArg AV.bool hb18) rfl rfl ?_
                          refine wo_not (tj := 160) (b := true) rfl (congrArg AV.bool hb18) rfl rfl ?_
                          refine wo_not (tj := 160) (b := true) rfl (congrArg AV.bool hb18) rfl rfl ?_
                          refine wo_not (tj := 160) (b := true) rfl (congrArg AV.bool hb18) rfl rfl ?_
                          refine wo_not (tj := 160) (b := true) rfl (congrArg AV.bool hb18) rfl rfl ?_
                          refine wo_not (tj := 160) (b := true) rfl (congrArg AV.bool hb18) rfl rfl ?_
                          refine wo_val (.bool true) rfl (pv_pick (t := true) (congrArg AV.bool hb18) rfl) ?_
                          refine wo_back1 ?_
                          refine wo_is [(2, (.ptr (ix ids 0) g 0 0)), (3, (.ptr (ix ids 1) g1 0 0)), (6, (.int .i64 (j1 : Int))), (7, (.ptr (ix ids 2) g2 0 0)), (8, (.ptr (ix ids 3) g3 0 0)), (167, (.bool true))] (.cons rfl (.cons rfl (.cons rfl (.cons rfl (.cons rfl (.cons rfl .nil)))))) ?_
                          exact hJ9 true _ _ ⟨rfl, rfl⟩
                        · refine wo_valg (tj := 160) (.ptr (ix ids 2) g2 0 2) rfl (congrArg AV.bool hb18) rfl (pv_fa (fa_ptr (c := 0) (off := 2) (i := 2) ti53 rfl ti51 rfl)) ?_
                          refine wo_valg (tj := 160) (.sl 1 (List.map (rI .i64) a3.Volumes)) rfl (congrArg AV.bool hb18) rfl (pv_load (ld_ptr hI rfl rfl rfl ti51 rfl)) ?_
                          refine wo_valg (tj := 160) (.ptr (ix ids 3) g3 0 2) rfl (congrArg AV.bool hb18) rfl (pv_fa (fa_ptr (c := 0) (off := 2) (i := 2) ti53 rfl ti51 rfl)) ?_
                          refine wo_valg (tj := 160) (.sl 1 (List.map (rI .i64) a4.Volumes)) rfl (congrArg AV.bool hb18) rfl (pv_load (ld_ptr hI rfl rfl rfl ti51 rfl)) ?_
                          refine of_call [(.sl 1 (List.map (rI .i64) a3.Volumes)), (.sl 1 (List.map (rI .i64) a4.Volumes))] rfl (wanted_yes (tj := 160) rfl (congrArg AV.bool hb18)) rfl rfl ((cp_ref08_SameInts a3.Volumes a4.Volumes) _) (fun v _ => wu_pan Try.func14 hI) fun r2 _ => ?_
                          refine wo_valg (tj := 160) (.bool (!r2)) rfl (congrArg AV.bool hb18) rfl (pv_un rfl) ?_
                          refine wo_val (.bool (!r2)) rfl (pv_pick (t := false) (congrArg AV.bool hb18) rfl) ?_
                          refine wo_back1 ?_
                          refine wo_is [(2, (.ptr (ix ids 0) g 0 0)), (3, (.ptr (ix ids 1) g1 0 0)), (6, (.int .i64 (j1 : Int))), (7, (.ptr (ix ids 2) g2 0 0)), (8, (.ptr (ix ids 3) g3 0 0)), (167, (.bool (!r2)))] (.cons rfl (.cons rfl (.cons rfl (.cons rfl (.cons rfl (.cons rfl .nil)))))) ?_
                          exact hJ9 (!r2) _ _ ⟨rfl, rfl⟩
                      · refine wo_not (tj := 152) (b := true) rfl (congrArg AV.bool hb16) rfl rfl ?_
                        refine wo_not (tj := 152) (b := true) rfl (congrArg AV.bool hb16) rfl rfl ?_
                        refine wo_not (tj := 152) (b := true) rfl (congrArg AV.bool hb16) rfl rfl ?_
                        refine wo_not (tj := 152) (b := true) rfl (congrArg AV.bool hb16) rfl rfl ?_
                        refine wo_not (tj := 152) (b := true) rfl (congrArg AV.bool hb16) rfl rfl ?_
                        refine wo_not (tj := 152) (b := true) rfl (congrArg AV.bool hb16) rfl rfl ?_
                        refine wo_val (.bool true) rfl (pv_pick (t := true) (congrArg AV.bool hb16) rfl) ?_
                        refine wo_back1 ?_
                        refine wo_is [(2, (.ptr (ix ids 0) g 0 0)), (3, (.ptr (ix ids 1) g1 0 0)), (6, (.int .i64 (j1 : Int))), (7, (.ptr (ix ids 2) g2 0 0)), (8, (.ptr (ix ids 3) g3 0 0)), (159, (.bool true))] (.cons rfl (.cons rfl (.cons rfl (.cons rfl (.cons rfl (.cons rfl .nil)))))) ?_
                        exact hJ8 true _ _ ⟨rfl, rfl⟩
                      · refine wo_valg (tj := 152) (.ptr (ix ids 2) g2 0 1) rfl (congrArg AV.bool hb16) rfl (pv_fa (fa_ptr (c := 0) (off := 1) (i := 1) ti53 rfl ti38 rfl)) ?_
                        refine wo_valg (tj := 152) (.sl 1 (List.map rS a3.Names)) rfl (congrArg AV.bool hb16) rfl (pv_load (ld_ptr hI rfl rfl rfl ti38 rfl)) ?_
                        refine wo_valg (tj := 152) (.ptr (ix ids 3) g3 0 1) rfl (congrArg AV.bool hb16) rfl (pv_fa (fa_ptr (c := 0) (off := 1) (i := 1) ti53 rfl ti38 rfl)) ?_
                        refine wo_valg (tj := 152) (.sl 1 (List.map rS a4.Names)) rfl (congrArg AV.bool hb16) rfl (pv_load (ld_ptr hI rfl rfl rfl ti38 rfl)) ?_
                        refine of_call [(.sl 1 (List.map rS a3.Names)), (.sl 1 (List.map rS a4.Names))] rfl (wanted_yes (tj := 152) rfl (congrArg AV.bool hb16)) rfl rfl ((cp_ref08_SameNames a3.Names a4.Names) _) (fun v _ => wu_pan Try.func14 hI) fun r1 _ => ?_
                        refine wo_valg (tj := 152) (.bool (!r1)) rfl (congrArg AV.bool hb16) rfl (pv_un rfl) ?_
                        refine wo_val (.bool (!r1)) rfl (pv_pick (t := false) (congrArg AV.bool hb16) rfl) ?_
                        refine wo_back1 ?_
                        refine wo_is [(2, (.ptr (ix ids 0) g 0 0)), (3, (.ptr (ix ids 1) g1 0 0)), (6, (.int .i64 (j1 : Int))), (7, (.ptr (ix ids 2) g2 0 0)), (8, (.ptr (ix ids 3) g3 0 0)), (159, (.bool (!r1)))] (.cons rfl (.cons rfl (.cons rfl (.cons rfl (.cons rfl (.cons rfl .nil)))))) ?_
                        exact hJ8 (!r1) _ _ ⟨rfl, rfl⟩
                    · rintro _ fr h ⟨rfl, rfl⟩
                      refine wr_mod (alt_inl _ _ _) ?_
                      refine wr_seq ?_
                      refine wr_seq ?_
                      refine wr_region ?_
                      refine wo_val (.int .i64 (a.Sectors.length : Int)) rfl pv_move ?_
                      refine wo_val (.ptr (ix ids 0) g 0 1) rfl (pv_fa (fa_ptr (c := 0) (off := 1) (i := 1) ti31 rfl ti23 rfl)) ?_
                      refine wo_val (.sl 5 (List.map rSector a.Sectors)) rfl (pv_load (ld_ptr hI rfl rfl rfl ti23 rfl)) ?_
                      refine wo_val (.int .i64 (a.Sectors.length : Int)) rfl (pv_len (len_sl ti23)) ?_
                      refine wo_val (.bool (decide ((a.Sectors.length : Int) < (a.Sectors.length : Int)))) rfl (pv_bin rfl rfl rfl) ?_
                      refine wo_nil ?_
                      refine wr_condF rfl (Int.lt_irrefl _) ?_
                      refine wr_exit rfl ?_
                      refine wr_seq ?_
                      refine wr_seq ?_
                      refine wr_region ?_
                      refine wo_val (.int .i64 0) rfl pv_assign ?_
                      refine wo_nil ?_
                      refine wr_block ?_
                      refine wr_is [(2, (.ptr (ix ids 0) g 0 0)), (3, (.ptr (ix ids 1) g1 0 0)), (9, (.int .i64 0))] (.cons rfl (.cons rfl (.cons rfl .nil))) ?_
                      refine wf_each' (P := Try.prog) a.Configs (fun j2 a5 => fun _ => ref08_Same_b3 b j2 a5) ((alt (fun _ => (each (fun j3 a7 => fun _ => ref08_Same_b4 b j3 a7) 0 a.Segments ()).bind (alt (fun _ => (each (fun j4 a9 => fun _ => ref08_Same_b5 b j4 a9) 0 a.Routes ()).bind (alt (fun _ => (each (fun j5 a11 => fun _ => ref08_Same_b7 b j5 a11) 0 a.Airports ()).bind (alt (fun _ => (each (fun j7 a15 => fun _ => ref08_Same_b8 b j7 a15) 0 a.Classes ()).bind (alt (fun _ => (each (fun j8 a17 => fun _ => ref08_Same_b9 b j8 a17) 0 a.Rules ()).bind (alt (fun _ => .ok true) (fun r => .ok r))) (fun r => .ok r))) (fun r => .ok r))) (fun r => .ok r))) (fun r => .ok r))) (fun r => .ok r)) : (Unit ⊕ Bool) → R Bool)
                        (fun j2 => fun _ => fun (fr : Nat → AV) (h : AHeap) => fr = frA [(2, (.ptr (ix ids 0) g 0 0)), (3, (.ptr (ix ids 1) g1 0 0)), (9, (.int .i64 (j2 : Int)))] ∧ h = hp h0 ids [(some (.rows g 8 [(rAirspace a)])), (some (.rows g1 8 [(rAirspace b)])), none, none, none, none, none, none, none, none, none, none]) () ?_ ?_ ?_
                      · exact ⟨rfl, rfl⟩
                      · rintro j2 a5 ha5 W hW2 _ fr h ⟨rfl, rfl⟩
                        refine wr_mod (m' := ref08_Same_b3 b j2 a5) rfl (wr_mod (ref08_Same_b3.eq_1 _ _ _) ?_)
                        refine wr_seq ?_
                        refine wr_seq ?_
                        refine wr_region ?_
                        refine wo_val (.int .i64 (j2 : Int)) rfl pv_move ?_
                        refine wo_val (.ptr (ix ids 0) g 0 2) rfl (pv_fa (fa_ptr (c := 0) (off := 2) (i := 2) ti31 rfl ti24 rfl)) ?_
                        refine wo_val (.sl 3 (List.map rConfig a.Configs)) rfl (pv_load (ld_ptr hI rfl rfl rfl ti24 rfl)) ?_
                        refine wo_val (.int .i64 (a.Configs.length : Int)) rfl (pv_len (len_sl ti24)) ?_
                        refine wo_val (.bool (decide ((j2 : Int) < (a.Configs.length : Int)))) rfl (pv_bin rfl rfl rfl) ?_
                        refine wo_nil ?_
                        refine wr_lim (t := 184) (L := a.Configs) rfl fun hlim5 => ?_
                        refine wr_condT rfl (Int.ofNat_lt.2 (lt_of_get ha5)) ?_
                        refine wr_skip ?_
                        refine wr_seq ?_
                        refine wr_block ?_
                        refine wr_seq ?_
                        refine wr_region ?_
                        refine wo_val (.ptr (ix ids 0) g 0 2) rfl (pv_fa (fa_ptr (c := 0) (off := 2) (i := 2) ti31 rfl ti24 rfl)) ?_
                        refine wo_val (.sl 3 (List.map rConfig a.Configs)) rfl (pv_load (ld_ptr hI rfl rfl rfl ti24 rfl)) ?_
                        refine wo_val (.int .i64 (j2 : Int)) rfl pv_move ?_
                        refine wo_val (.cp (rConfig a5) 0) rfl (pv_ixa (ixa_nat ti24 ti55 rfl ha5)) ?_
                        refine wo_val (.agg (rConfig a5)) rfl (pv_load (ld_cp ti55 rfl)) ?_
                        refine wo_alloc (j := 4) hI rfl rfl rfl rfl ti55 rfl fun g4 => ?_
                        refine wo_store (st_ptr hI rfl rfl rfl rfl ti55 rfl rfl rfl rfl rfl) ?_
                        refine wo_nil ?_
                        refine wr_hp [(some (.rows g 8 [(rAirspace a)])), (some (.rows g1 8 [(rAirspace b)])), none, none, (some (.rows g4 3 [(rConfig a5)])), none, none, none, none, none, none, none] rfl ?_
                        refine wr_seq ?_
                        refine wr_region ?_
                        refine wo_val (.ptr (ix ids 1) g1 0 2) rfl (pv_fa (fa_ptr (c := 0) (off := 2) (i := 2) ti31 rfl ti24 rfl)) ?_
                        refine wo_val (.sl 3 (List.map rConfig b.Configs)) rfl (pv_load (ld_ptr hI rfl rfl rfl ti24 rfl)) ?_
                        refine wo_val (.int .i64 (j2 : Int)) rfl pv_move ?_
                        refine of_idx fun a6 hz2 hx3 => ?_
                        refine wo_val (.cp (rConfig a6) 0) rfl (pv_ixa (ixa_sl ti24 ti55 rfl hz2 hx3)) ?_
                        refine wo_val (.agg (rConfig a6)) rfl (pv_load (ld_cp ti55 rfl)) ?_
                        refine wo_alloc (j := 5) hI rfl rfl rfl rfl ti55 rfl fun g5 => ?_
                        refine wo_store (st_ptr hI rfl rfl rfl rfl ti55 rfl rfl rfl rfl rfl) ?_
                        refine wo_nil ?_
                        refine wr_hp [(some (.rows g 8 [(rAirspace a)])), (some (.rows g1 8 [(rAirspace b)])), none, none, (some (.rows g4 3 [(rConfig a5)])), (some (.rows g5 3 [(rConfig a6)])), none, none, none, none, none, none] rfl ?_
                        refine wr_seq ?_
                        refine wr_region ?_
                        refine wo_val (.ptr (ix ids 4) g4 0 0) rfl (pv_fa (fa_ptr (c := 0) (off := 0) (i := 0) ti55 rfl ti9 rfl)) ?_
                        refine wo_val (.str a5.Name) rfl (pv_load (ld_ptr hI rfl rfl rfl ti9 rfl)) ?_
                        refine wo_val (.ptr (ix ids 5) g5 0 0) rfl (pv_fa (fa_ptr (c := 0) (off := 0) (i := 0) ti55 rfl ti9 rfl)) ?_
                        refine wo_val (.str a6.Name) rfl (pv_load (ld_ptr hI rfl rfl rfl ti9 rfl)) ?_
                        refine wo_val (.bool (!(a5.Name == a6.Name))) rfl (pv_bin rfl rfl rfl) ?_
                        refine wo_val (.bool (!(a5.Name == a6.Name))) rfl pv_move ?_
                        refine wo_join 7 ((fun (b3 : Bool) => (if b3 then R.ok true else (ref08_SameInts a5.Sectors a6.Sectors).bind fun r4 =>
  R.ok (!r4)).bind (fun (b4 : Bool) => if b4 then
(.ok (.inr (false)))
else
(.ok (.inl ())))) : Bool → R (Unit ⊕ Bool)) (fun (b3 : Bool) (fr : Nat → AV) (h : AHeap) => fr = frA [(2, (.ptr (ix ids 0) g 0 0)), (3, (.ptr (ix ids 1) g1 0 0)), (9, (.int .i64 (j2 : Int))), (10, (.ptr (ix ids 4) g4 0 0)), (11, (.ptr (ix ids 5) g5 0 0)), (211, (.bool b3))] ∧ h = hp h0 ids [(some (.rows g 8 [(rAirspace a)])), (some (.rows g1 8 [(rAirspace b)])), none, none, (some (.rows g4 3 [(rConfig a5)])), (some (.rows g5 3 [(rConfig a6)])), none, none, none, none, none, none]) ?_ fun hJ12 => of_if1 (fun hb24 => ?_) (fun hb24 => ?_)
                        · rintro b3 fr h ⟨rfl, rfl⟩
                          refine wo_val (.bool b3) rfl pv_move ?_
                          refine wo_join 7 ((fun (b4 : Bool) => if b4 then
(.ok (.inr (false)))
else
(.ok (.inl ()))) : Bool → R (Unit ⊕ Bool)) (fun (b4 : Bool) (fr : Nat → AV) (h : AHeap) => fr = frA [(2, (.ptr (ix ids 0) g 0 0)), (3, (.ptr (ix ids 1) g1 0 0)), (9, (.int .i64 (j2 : Int))), (219, (.bool b4))] ∧ h = hp h0 ids [(some (.rows g 8 [(rAirspace a)])), (some (.rows g1 8 [(rAirspace b)])), none, none, (some (.rows g4 3 [(rConfig a5)])), (some (.rows g5 3 [(rConfig a6)])), none, none, none, none, none, none]) ?_ fun hJ13 => of_if1 (fun hb26 => ?_) (fun hb26 => ?_)
                          · rintro b4 fr h ⟨rfl, rfl⟩
                            refine wo_nil ?_
                            refine wf_iteb rfl (fun hc3 => ?_) (fun hc3 => ?_)
                            · refine wr_seq ?_
                              refine wr_region ?_
                              refine wo_val (.bool false) rfl pv_assign ?_
                              refine wo_nil ?_
                              refine wx_each ?_
                              refine w_altr ?_
                              exact wr_ret (a := false) (vs := [(.bool false)]) Try.func14 hI rfl (.same _)
                            · refine wr_skip ?_
                              refine wr_inBlock ?_
                              refine wr_region ?_
                              refine wo_val (.int .i64 (j2 : Int)) rfl pv_move ?_
                              refine wo_val (.int .i64 (IntKind.wrap .i64 ((j2 : Int) + 1))) rfl (pv_bin rfl rfl rfl) ?_
                              refine wo_val (.int .i64 (IntKind.wrap .i64 ((j2 : Int) + 1))) rfl pv_assign ?_
                              refine wo_nil ?_
                              refine wr_drop [(some (.rows g 8 [(rAirspace a)])), (some (.rows g1 8 [(rAirspace b)])), none, none, none, none, none, none, none, none, none, none] hI rfl (.keep (.keep (.keep (.keep (.drop (.drop (.keep (.keep (.keep (.keep (.keep (.keep .nil)))))))))))) ?_
                              refine wr_is [(2, (.ptr (ix ids 0) g 0 0)), (3, (.ptr (ix ids 1) g1 0 0)), (9, (.int .i64 ((j2 + 1 : Nat) : Int)))] (.cons rfl (.cons rfl (.cons (inc_ok (lt_of_get ha5) hlim5) .nil))) ?_
                              refine wb_each ?_
                              refine hW2 () _ _ ?_
                              exact ⟨rfl, rfl⟩
                          · refine wo_not (tj := 212) (b := true) rfl (congrArg AV.bool hb26) rfl rfl ?_
                            refine wo_not (tj := 212) (b := true) rfl (congrArg AV.bool hb26) rfl rfl ?_
                            refine wo_not (tj := 212) (b := true) rfl (congrArg AV.bool hb26) rfl rfl ?_
                            refine wo_not (tj := 212) (b := true) rfl (congrArg AV.bool hb26) rfl rfl ?_
                            refine wo_not (tj := 212) (b := true) rfl (congrArg AV.bool hb26) rfl rfl ?_
                            refine wo_not (tj := 212) (b := true) rfl (congrArg AV.bool hb26) rfl rfl ?_
                            refine wo_val (.bool true) rfl (pv_pick (t := true) (congrArg AV.bool hb26) rfl) ?_
                            refine wo_back1 ?_
                            refine wo_is [(2, (.ptr (ix ids 0) g 0 0)), (3, (.ptr (ix ids 1) g1 0 0)), (9, (.int .i64 (j2 : Int))), (219, (.bool true))] (.cons rfl (.cons rfl (.cons rfl (.cons rfl .nil)))) ?_
                            exact hJ13 true _ _ ⟨rfl, rfl⟩
                          · refine wo_valg (tj := 212) (.ptr (ix ids 4) g4 0 2) rfl (congrArg AV.bool hb26) rfl (pv_fa (fa_ptr (c := 0) (off := 2) (i := 2) ti55 rfl ti51 rfl)) ?_
                            refine wo_valg (tj := 212) (.sl 1 (List.map (rI .i64) a5.Sectors)) rfl (congrArg AV.bool hb26) rfl (pv_load (ld_ptr hI rfl rfl rfl ti51 rfl)) ?_
                            refine wo_valg (tj := 212) (.ptr (ix ids 5) g5 0 2) rfl (congrArg AV.bool hb26) rfl (pv_fa (fa_ptr (c := 0) (off := 2) (i := 2) ti55 rfl ti51 rfl)) ?_
                            refine wo_valg (tj := 212) (.sl 1 (List.map (rI .i64) a6.Sectors)) rfl (congrArg AV.bool hb26) rfl (pv_load (ld_ptr hI rfl rfl rfl ti51 rfl)) ?_
                            refine of_call [(.sl 1 (List.map (rI .i64) a5.Sectors)), (.sl 1 (List.map (rI .i64) a6.Sectors))] rfl (wanted_yes (tj := 212) rfl (congrArg AV.bool hb26)) rfl rfl ((cp_ref08_SameInts a5.Sectors a6.Sectors) _) (fun v _ => wu_pan Try.func14 hI) fun r4 _ => ?_
                            refine wo_valg (tj := 212) (.bool (!r4)) rfl (congrArg AV.bool hb26) rfl (pv_un rfl) ?_
                            refine wo_val (.bool (!r4)) rfl (pv_pick (t := false) (congrArg AV.bool hb26) rfl) ?_
                            refine wo_back1 ?_
                            refine wo_is [(2, (.ptr (ix ids 0) g 0 0)), (3, (.ptr (ix ids 1) g1 0 0)), (9, (.int .i64 (j2 : Int))), (219, (.bool (!r4)))] (.cons rfl (.cons rfl (.cons rfl (.cons rfl .nil)))) ?_
                            exact hJ13 (!r4) _ _ ⟨rfl, rfl⟩
                        · refine wo_not (tj := 204) (b := true) rfl (congrArg AV.bool hb24) rfl rfl ?_
                          refine wo_not (tj := 204) (b := true) rfl (congrArg AV.bool hb24) rfl rfl ?_
                          refine wo_not (tj := 204) (b := true) rfl (congrArg AV.bool hb24) rfl rfl ?_
                          refine wo_not (tj := 204) (b := true) rfl (congrArg AV.bool hb24) rfl rfl ?_
                          refine wo_not (tj := 204) (b := true) rfl (congrArg AV.bool hb24) rfl rfl ?_
                          refine wo_not (tj := 204) (b := true) rfl (congrArg AV.bool hb24) rfl rfl ?_
                          refine wo_val (.bool true) rfl (pv_pick (t := true) (congrArg AV.bool hb24) rfl) ?_
                          refine wo_back1 ?_
                          refine wo_is [(2, (.ptr (ix ids 0) g 0 0)), (3, (.ptr (ix ids 1) g1 0 0)), (9, (.int .i64 (j2 : Int))), (10, (.ptr (ix ids 4) g4 0 0)), (11, (.ptr (ix ids 5) g5 0 0)), (211, (.bool true))] (.cons rfl (.cons rfl (.cons rfl (.cons rfl (.cons rfl (.cons rfl .nil)))))) ?_
                          exact hJ12 true _ _ ⟨rfl, rfl⟩
                        · refine wo_valg (tj := 204) (.ptr (ix ids 4) g4 0 1) rfl (congrArg AV.bool hb24) rfl (pv_fa (fa_ptr (c := 0) (off := 1) (i := 1) ti55 rfl ti38 rfl)) ?_
                          refine wo_valg (tj := 204) (.sl 1 (List.map rS a5.Names)) rfl (congrArg AV.bool hb24) rfl (pv_load (ld_ptr hI rfl rfl rfl ti38 rfl)) ?_
                          refine wo_valg (tj := 204) (.ptr (ix ids 5) g5 0 1) rfl (congrArg AV.bool hb24) rfl (pv_fa (fa_ptr (c := 0) (off := 1) (i := 1) ti55 rfl ti38 rfl)) ?_
                          refine wo_valg (tj := 204) (.sl 1 (List.map rS a6.Names)) rfl (congrArg AV.bool hb24) rfl (pv_load (ld_ptr hI rfl rfl rfl ti38 rfl)) ?_
                          refine of_call [(.sl 1 (List.map rS a5.Names)), (.sl 1 (List.map rS a6.Names))] rfl (wanted_yes (tj := 204) rfl (congrArg AV.bool hb24)) rfl rfl ((cp_ref08_SameNames a5.Names a6.Names) _) (fun v _ => wu_pan Try.func14 hI) fun r3 _ => ?_
                          refine wo_valg (tj := 204) (.bool (!r3)) rfl (congrArg AV.bool hb24) rfl (pv_un rfl) ?_
                          refine wo_val (.bool (!r3)) rfl (pv_pick (t := false) (congrArg AV.bool hb24) rfl) ?_
                          refine wo_back1 ?_
                          refine wo_is [(2, (.ptr (ix ids 0) g 0 0)), (3, (.ptr (ix ids 1) g1 0 0)), (9, (.int .i64 (j2 : Int))), (10, (.ptr (ix ids 4) g4 0 0)), (11, (.ptr (ix ids 5) g5 0 0)), (211, (.bool (!r3)))] (.cons rfl (.cons rfl (.cons rfl (.cons rfl (.cons rfl (.cons rfl .nil)))))) ?_
                          exact hJ12 (!r3) _ _ ⟨rfl, rfl⟩
                      · rintro _ fr h ⟨rfl, rfl⟩
                        refine wr_mod (alt_inl _ _ _) ?_
                        refine wr_seq ?_
                        refine wr_seq ?_
                        refine wr_region ?_
                        refine wo_val (.int .i64 (a.Configs.length : Int)) rfl pv_move ?_
                        refine wo_val (.ptr (ix ids 0) g 0 2) rfl (pv_fa (fa_ptr (c := 0) (off := 2) (i := 2) ti31 rfl ti24 rfl)) ?_
                        refine wo_val (.sl 3 (List.map rConfig a.Configs)) rfl (pv_load (ld_ptr hI rfl rfl rfl ti24 rfl)) ?_
                        refine wo_val (.int .i64 (a.Configs.length : Int)) rfl (pv_len (len_sl ti24)) ?_
                        refine wo_val (.bool (decide ((a.Configs.length : Int) < (a.Configs.length : Int)))) rfl (pv_bin rfl rfl rfl) ?_
                        refine wo_nil ?_
                        refine wr_condF rfl (Int.lt_irrefl _) ?_
                        refine wr_exit rfl ?_
                        refine wr_seq ?_
                        refine wr_seq ?_
                        refine wr_region ?_
                        refine wo_val (.int .i64 0) rfl pv_assign ?_
                        refine wo_nil ?_
                        refine wr_block ?_
                        refine wr_is [(2, (.ptr (ix ids 0) g 0 0)), (3, (.ptr (ix ids 1) g1 0 0)), (12, (.int .i64 0))] (.cons rfl (.cons rfl (.cons rfl .nil))) ?_
                        refine wf_each' (P := Try.prog) a.Segments (fun j3 a7 => fun _ => ref08_Same_b4 b j3 a7) ((alt (fun _ => (each (fun j4 a9 => fun _ => ref08_Same_b5 b j4 a9) 0 a.Routes ()).bind (alt (fun _ => (each (fun j5 a11 => fun _ => ref08_Same_b7 b j5 a11) 0 a.Airports ()).bind (alt (fun _ => (each (fun j7 a15 => fun _ => ref08_Same_b8 b j7 a15) 0 a.Classes ()).bind (alt (fun _ => (each (fun j8 a17 => fun _ => ref08_Same_b9 b j8 a17) 0 a.Rules ()).bind (alt (fun _ => .ok true) (fun r => .ok r))) (fun r => .ok r))) (fun r => .ok r))) (fun r => .ok r))) (fun r => .ok r)) : (Unit ⊕ Bool) → R Bool)
                          (fun j3 => fun _ => fun (fr : Nat → AV) (h : AHeap) => fr = frA [(2, (.ptr (ix ids 0) g 0 0)), (3, (.ptr (ix ids 1) g1 0 0)), (12, (.int .i64 (j3 : Int)))] ∧ h = hp h0 ids [(some (.rows g 8 [(rAirspace a)])), (some (.rows g1 8 [(rAirspace b)])), none, none, none, none, none, none, none, none, none, none]) () ?_ ?_ ?_
                        · exact ⟨rfl, rfl⟩
                        · rintro j3 a7 ha7 W hW3 _ fr h ⟨rfl, rfl⟩
                          refine wr_mod (m' := ref08_Same_b4 b j3 a7) rfl (wr_mod (ref08_Same_b4.eq_1 _ _ _) ?_)
                          refine wr_seq ?_
                          refine wr_seq ?_
                          refine wr_region ?_
                          refine wo_val (.int .i64 (j3 : Int)) rfl pv_move ?_
                          refine wo_val (.ptr (ix ids 0) g 0 3) rfl (pv_fa (fa_ptr (c := 0) (off := 3) (i := 3) ti31 rfl ti25 rfl)) ?_
                          refine wo_val (.sl 5 (List.map rSegment a.Segments)) rfl (pv_load (ld_ptr hI rfl rfl rfl ti25 rfl)) ?_
                          refine wo_val (.int .i64 (a.Segments.length : Int)) rfl (pv_len (len_sl ti25)) ?_
                          refine wo_val (.bool (decide ((j3 : Int) < (a.Segments.length : Int)))) rfl (pv_bin rfl rfl rfl) ?_
                          refine wo_nil ?_
                          refine wr_lim (t := 222) (L := a.Segments) rfl fun hlim7 => ?_
                          refine wr_condT rfl (Int.ofNat_lt.2 (lt_of_get ha7)) ?_
                          refine wr_skip ?_
                          refine wr_seq ?_
                          refine wr_block ?_
                          refine wr_seq ?_
                          refine wr_region ?_
                          refine wo_val (.ptr (ix ids 0) g 0 3) rfl (pv_fa (fa_ptr (c := 0) (off := 3) (i := 3) ti31 rfl ti25 rfl)) ?_
                          refine wo_val (.sl 5 (List.map rSegment a.Segments)) rfl (pv_load (ld_ptr hI rfl rfl rfl ti25 rfl)) ?_
                          refine wo_val (.int .i64 (j3 : Int)) rfl pv_move ?_
                          refine wo_val (.cp (rSegment a7) 0) rfl (pv_ixa (ixa_nat ti25 ti57 rfl ha7)) ?_
                          refine wo_val (.agg (rSegment a7)) rfl (pv_load (ld_cp ti57 rfl)) ?_
                          refine wo_alloc (j := 6) hI rfl rfl rfl rfl ti57 rfl fun g6 => ?_
                          refine wo_store (st_ptr hI rfl rfl rfl rfl ti57 rfl rfl rfl rfl rfl) ?_
                          refine wo_nil ?_
                          refine wr_hp [(some (.rows g 8 [(rAirspace a)])), (some (.rows g1 8 [(rAirspace b)])), none, none, none, none, (some (.rows g6 5 [(rSegment a7)])), none, none, none, none, none] rfl ?_
                          refine wr_seq ?_
                          refine wr_region ?_
                          refine wo_val (.ptr (ix ids 1) g1 0 3) rfl (pv_fa (fa_ptr (c := 0) (off := 3) (i := 3) ti31 rfl ti25 rfl)) ?_
                          refine wo_val (.sl 5 (List.map rSegment b.Segments)) rfl (pv_load (ld_ptr hI rfl rfl rfl ti25 rfl)) ?_
                          refine wo_val (.int .i64 (j3 : Int)) rfl pv_move ?_
                          refine of_idx fun a8 hz3 hx4 => ?_
                          refine wo_val (.cp (rSegment a8) 0) rfl (pv_ixa (ixa_sl ti25 ti57 rfl hz3 hx4)) ?_
                          refine wo_val (.agg (rSegment a8)) rfl (pv_load (ld_cp ti57 rfl)) ?_
                          refine wo_alloc (j := 7) hI rfl rfl rfl rfl ti57 rfl fun g7 => ?_
                          refine wo_store (st_ptr hI rfl rfl rfl rfl ti57 rfl rfl rfl rfl rfl) ?_
                          refine wo_nil ?_
                          refine wr_hp [(some (.rows g 8 [(rAirspace a)])), (some (.rows g1 8 [(rAirspace b)])), none, none, none, none, (some (.rows g6 5 [(rSegment a7)])), (some (.rows g7 5 [(rSegment a8)])), none, none, none, none] rfl ?_
                          refine wr_seq ?_
                          refine wr_region ?_
                          refine wo_val (.ptr (ix ids 6) g6 0 0) rfl (pv_fa (fa_ptr (c := 0) (off := 0) (i := 0) ti57 rfl ti9 rfl)) ?_
                          refine wo_val (.str a7.Name) rfl (pv_load (ld_ptr hI rfl rfl rfl ti9 rfl)) ?_
                          refine wo_val (.ptr (ix ids 7) g7 0 0) rfl (pv_fa (fa_ptr (c := 0) (off := 0) (i := 0) ti57 rfl ti9 rfl)) ?_
                          refine wo_val (.str a8.Name) rfl (pv_load (ld_ptr hI rfl rfl rfl ti9 rfl)) ?_
                          refine wo_val (.bool (!(a7.Name == a8.Name))) rfl (pv_bin rfl rfl rfl) ?_
                          refine wo_val (.bool (!(a7.Name == a8.Name))) rfl pv_move ?_
                          refine wo_meet 6 [(2, (.ptr (ix ids 0) g 0 0)), (3, (.ptr (ix ids 1) g1 0 0)), (12, (.int .i64 (j3 : Int))), (13, (.ptr (ix ids 6) g6 0 0)), (14, (.ptr (ix ids 7) g7 0 0)), (248, (.bool ((!(a7.Name == a8.Name)) || (!(a7.In == a8.In)))))] ?_ fun hJ14 => wo_cases (!(a7.Name == a8.Name)) (fun hb28 => ?_) (fun hb28 => ?_)
                          · refine wo_val (.bool ((!(a7.Name == a8.Name)) || (!(a7.In == a8.In)))) rfl pv_move ?_
                            refine wo_meet 6 [(2, (.ptr (ix ids 0) g 0 0)), (3, (.ptr (ix ids 1) g1 0 0)), (12, (.int .i64 (j3 : Int))), (13, (.ptr (ix ids 6) g6 0 0)), (14, (.ptr (ix ids 7) g7 0 0)), (255, (.bool (((!(a7.Name == a8.Name)) || (!(a7.In == a8.In))) || (a7.Volume != a8.Volume))))] ?_ fun hJ15 => wo_cases ((!(a7.Name == a8.Name)) || (!(a7.In == a8.In))) (fun hb30 => ?_) (fun hb30 => ?_)
                            · refine wo_val (.bool (((!(a7.Name == a8.Name)) || (!(a7.In == a8.In))) || (a7.Volume != a8.Volume))) rfl pv_move ?_
                              refine wo_meet 6 [(2, (.ptr (ix ids 0) g 0 0)), (3, (.ptr (ix ids 1) g1 0 0)), (12, (.int .i64 (j3 : Int))), (13, (.ptr (ix ids 6) g6 0 0)), (14, (.ptr (ix ids 7) g7 0 0)), (262, (.bool ((((!(a7.Name == a8.Name)) || (!(a7.In == a8.In))) || (a7.Volume != a8.Volume)) || (a7.Length != a8.Length))))] ?_ fun hJ16 => wo_cases (((!(a7.Name == a8.Name)) || (!(a7.In == a8.In))) || (a7.Volume != a8.Volume)) (fun hb32 => ?_) (fun hb32 => ?_)
                              · refine wo_val (.bool ((((!(a7.Name == a8.Name)) || (!(a7.In == a8.In))) || (a7.Volume != a8.Volume)) || (a7.Length != a8.Length))) rfl pv_move ?_
                                refine wo_join 7 ((fun (b5 : Bool) => if b5 then
(.ok (.inr (false)))
else
(.ok (.inl ()))) : Bool → R (Unit ⊕ Bool)) (fun (b5 : Bool) (fr : Nat → AV) (h : AHeap) => fr = frA [(2, (.ptr (ix ids 0) g 0 0)), (3, (.ptr (ix ids 1) g1 0 0)), (12, (.int .i64 (j3 : Int))), (270, (.bool b5))] ∧ h = hp h0 ids [(some (.rows g 8 [(rAirspace a)])), (some (.rows g1 8 [(rAirspace b)])), none, none, none, none, (some (.rows g6 5 [(rSegment a7)])), (some (.rows g7 5 [(rSegment a8)])), none, none, none, none]) ?_ fun hJ17 => of_if1 (fun hb34 => ?_) (fun hb34 => ?_)
                                · rintro b5 fr h ⟨rfl, rfl⟩
                                  refine wo_nil ?_
                                  refine wf_iteb rfl (fun hc4 => ?_) (fun hc4 => ?_)
                                  · refine wr_seq ?_
                                    refine wr_region ?_
                                    refine wo_val (.bool false) rfl pv_assign ?_
                                    refine wo_nil ?_
                                    refine wx_each ?_
                                    refine w_altr ?_
                                    exact wr_ret (a := false) (vs := [(.bool false)]) Try.func14 hI rfl (.same _)
                                  · refine wr_skip ?_
                                    refine wr_inBlock ?_
                                    refine wr_region ?_
                                    refine wo_val (.int .i64 (j3 : Int)) rfl pv_move ?_
                                    refine wo_val (.int .i64 (IntKind.wrap .i64 ((j3 : Int) + 1))) rfl (pv_bin rfl rfl rfl) ?_
                                    refine wo_val (.int .i64 (IntKind.wrap .i64 ((j3 : Int) + 1))) rfl pv_assign ?_
                                    refine wo_nil ?_
                                    refine wr_drop [(some (.rows g 8 [(rAirspace a)])), (some (.rows g1 8 [(rAirspace b)])), none, none, none, none, none, none, none, none, none, none] hI rfl (.keep (.keep (.keep (.keep (.keep (.keep (.drop (.drop (.keep (.keep (.keep (.keep .nil)))))))))))) ?_
                                    refine wr_is [(2, (.ptr (ix ids 0) g 0 0)), (3, (.ptr (ix ids 1) g1 0 0)), (12, (.int .i64 ((j3 + 1 : Nat) : Int)))] (.cons rfl (.cons rfl (.cons (inc_ok (lt_of_get ha7) hlim7) .nil))) ?_
                                    refine wb_each ?_
                                    refine hW3 () _ _ ?_
                                    exact ⟨rfl, rfl⟩
                                · refine wo_not (tj := 263) (b := true) rfl (congrArg AV.bool hb34) rfl rfl ?_
                                  refine wo_not (tj := 263) (b := true) rfl (congrArg AV.bool hb34) rfl rfl ?_
                                  refine wo_not (tj := 263) (b := true) rfl (congrArg AV.bool hb34) rfl rfl ?_
                                  refine wo_not (tj := 263) (b := true) rfl (congrArg AV.bool hb34) rfl rfl ?_
                                  refine wo_not (tj := 263) (b := true) rfl (congrArg AV.bool hb34) rfl rfl ?_
                                  refine wo_not (tj := 263) (b := true) rfl (congrArg AV.bool hb34) rfl rfl ?_
                                  refine wo_val (.bool true) rfl (pv_pick (t := true) (congrArg AV.bool hb34) rfl) ?_
                                  refine wo_back1 ?_
                                  refine wo_is [(2, (.ptr (ix ids 0) g 0 0)), (3, (.ptr (ix ids 1) g1 0 0)), (12, (.int .i64 (j3 : Int))), (270, (.bool true))] (.cons rfl (.cons rfl (.cons rfl (.cons rfl .nil)))) ?_
                                  exact hJ17 true _ _ ⟨rfl, rfl⟩
                                · refine wo_valg (tj := 263) (.ptr (ix ids 6) g6 0 4) rfl (congrArg AV.bool hb34) rfl (pv_fa (fa_ptr (c := 0) (off := 4) (i := 4) ti57 rfl ti39 rfl)) ?_
                                  refine wo_valg (tj := 263) (.sl 2 (List.map rSpan a7.Open)) rfl (congrArg AV.bool hb34) rfl (pv_load (ld_ptr hI rfl rfl rfl ti39 rfl)) ?_
                                  refine wo_valg (tj := 263) (.ptr (ix ids 7) g7 0 4) rfl (congrArg AV.bool hb34) rfl (pv_fa (fa_ptr (c := 0) (off := 4) (i := 4) ti57 rfl ti39 rfl)) ?_
                                  refine wo_valg (tj := 263) (.sl 2 (List.map rSpan a8.Open)) rfl (congrArg AV.bool hb34) rfl (pv_load (ld_ptr hI rfl rfl rfl ti39 rfl)) ?_
                                  refine of_call [(.sl 2 (List.map rSpan a7.Open)), (.sl 2 (List.map rSpan a8.Open))] rfl (wanted_yes (tj := 263) rfl (congrArg AV.bool hb34)) rfl rfl ((cp_ref08_SameSpans a7.Open a8.Open) _) (fun v _ => wu_pan Try.func14 hI) fun r5 _ => ?_
                                  refine wo_valg (tj := 263) (.bool (!r5)) rfl (congrArg AV.bool hb34) rfl (pv_un rfl) ?_
                                  refine wo_val (.bool (!r5)) rfl (pv_pick (t := false) (congrArg AV.bool hb34) rfl) ?_
                                  refine wo_back1 ?_
                                  refine wo_is [(2, (.ptr (ix ids 0) g 0 0)), (3, (.ptr (ix ids 1) g1 0 0)), (12, (.int .i64 (j3 : Int))), (270, (.bool (!r5)))] (.cons rfl (.cons rfl (.cons rfl (.cons rfl .nil)))) ?_
                                  exact hJ17 (!r5) _ _ ⟨rfl, rfl⟩
                              · refine wo_not (tj := 256) (b := true) rfl (congrArg AV.bool hb32) rfl rfl ?_
                                refine wo_not (tj := 256) (b := true) rfl (congrArg AV.bool hb32) rfl rfl ?_
                                refine wo_not (tj := 256) (b := true) rfl (congrArg AV.bool hb32) rfl rfl ?_
                                refine wo_not (tj := 256) (b := true) rfl (congrArg AV.bool hb32) rfl rfl ?_
                                refine wo_not (tj := 256) (b := true) rfl (congrArg AV.bool hb32) rfl rfl ?_
                                refine wo_val (.bool true) rfl (pv_pick (t := true) (congrArg AV.bool hb32) rfl) ?_
                                exact wo_is [(2, (.ptr (ix ids 0) g 0 0)), (3, (.ptr (ix ids 1) g1 0 0)), (12, (.int .i64 (j3 : Int))), (13, (.ptr (ix ids 6) g6 0 0)), (14, (.ptr (ix ids 7) g7 0 0)), (262, (.bool ((((!(a7.Name == a8.Name)) || (!(a7.In == a8.In))) || (a7.Volume != a8.Volume)) || (a7.Length != a8.Length))))] (.cons rfl (.cons rfl (.cons rfl (.cons rfl (.cons rfl (.cons (or_t hb32) .nil)))))) hJ16
                              · refine wo_valg (tj := 256) (.ptr (ix ids 6) g6 0 3) rfl (congrArg AV.bool hb32) rfl (pv_fa (fa_ptr (c := 0) (off := 3) (i := 3) ti57 rfl ti3 rfl)) ?_
                                refine wo_valg (tj := 256) (.int .i64 a7.Length) rfl (congrArg AV.bool hb32) rfl (pv_load (ld_ptr hI rfl rfl rfl ti3 rfl)) ?_
                                refine wo_valg (tj := 256) (.ptr (ix ids 7) g7 0 3) rfl (congrArg AV.bool hb32) rfl (pv_fa (fa_ptr (c := 0) (off := 3) (i := 3) ti57 rfl ti3 rfl)) ?_
                                refine wo_valg (tj := 256) (.int .i64 a8.Length) rfl (congrArg AV.bool hb32) rfl (pv_load (ld_ptr hI rfl rfl rfl ti3 rfl)) ?_
                                refine wo_valg (tj := 256) (.bool (a7.Length != a8.Length)) rfl (congrArg AV.bool hb32) rfl (pv_bin rfl rfl rfl) ?_
                                refine wo_val (.bool (a7.Length != a8.Length)) rfl (pv_pick (t := false) (congrArg AV.bool hb32) rfl) ?_
                                exact wo_is [(2, (.ptr (ix ids 0) g 0 0)), (3, (.ptr (ix ids 1) g1 0 0)), (12, (.int .i64 (j3 : Int))), (13, (.ptr (ix ids 6) g6 0 0)), (14, (.ptr (ix ids 7) g7 0 0)), (262, (.bool ((((!(a7.Name == a8.Name)) || (!(a7.In == a8.In))) || (a7.Volume != a8.Volume)) || (a7.Length != a8.Length))))] (.cons rfl (.cons rfl (.cons rfl (.cons rfl (.cons rfl (.cons (or_f hb32) .nil)))))) hJ16
                            · refine wo_not (tj := 249) (b := true) rfl (congrArg AV.bool hb30) rfl rfl ?_
                              refine wo_not (tj := 249) (b := true) rfl (congrArg AV.bool hb30) rfl rfl ?_
                              refine wo_not (tj := 249) (b := true) rfl (congrArg AV.bool hb30) rfl rfl ?_
                              refine wo_not (tj := 249) (b := true) rfl (congrArg AV.bool hb30) rfl rfl ?_
                              refine wo_not (tj := 249) (b := true) rfl (congrArg AV.bool hb30) rfl rfl ?_
                              refine wo_val (.bool true) rfl (pv_pick (t := true) (congrArg AV.bool hb30) rfl) ?_
                              exact wo_is [(2, (.ptr (ix ids 0) g 0 0)), (3, (.ptr (ix ids 1) g1 0 0)), (12, (.int .i64 (j3 : Int))), (13, (.ptr (ix ids 6) g6 0 0)), (14, (.ptr (ix ids 7) g7 0 0)), (255, (.bool (((!(a7.Name == a8.Name)) || (!(a7.In == a8.In))) || (a7.Volume != a8.Volume))))] (.cons rfl (.cons rfl (.cons rfl (.cons rfl (.cons rfl (.cons (or_t hb30) .nil)))))) hJ15
                            · refine wo_valg (tj := 249) (.ptr (ix ids 6) g6 0 2) rfl (congrArg AV.bool hb30) rfl (pv_fa (fa_ptr (c := 0) (off := 2) (i := 2) ti57 rfl ti3 rfl)) ?_
                              refine wo_valg (tj := 249) (.int .i64 a7.Volume) rfl (congrArg AV.bool hb30) rfl (pv_load (ld_ptr hI rfl rfl rfl ti3 rfl)) ?_
                              refine wo_valg (tj := 249) (.ptr (ix ids 7) g7 0 2) rfl (congrArg AV.bool hb30) rfl (pv_fa (fa_ptr (c := 0) (off := 2) (i := 2) ti57 rfl ti3 rfl)) ?_
                              refine wo_valg (tj := 249) (.int .i64 a8.Volume) rfl (congrArg AV.bool hb30) rfl (pv_load (ld_ptr hI rfl rfl rfl ti3 rfl)) ?_
                              refine wo_valg (tj := 249) (.bool (a7.Volume != a8.Volume)) rfl (congrArg AV.bool hb30) rfl (pv_bin rfl rfl rfl) ?_
                              refine wo_val (.bool (a7.Volume != a8.Volume)) rfl (pv_pick (t := false) (congrArg AV.bool hb30) rfl) ?_
                              exact wo_is [(2, (.ptr (ix ids 0) g 0 0)), (3, (.ptr (ix ids 1) g1 0 0)), (12, (.int .i64 (j3 : Int))), (13, (.ptr (ix ids 6) g6 0 0)), (14, (.ptr (ix ids 7) g7 0 0)), (255, (.bool (((!(a7.Name == a8.Name)) || (!(a7.In == a8.In))) || (a7.Volume != a8.Volume))))] (.cons rfl (.cons rfl (.cons rfl (.cons rfl (.cons rfl (.cons (or_f hb30) .nil)))))) hJ15
                          · refine wo_not (tj := 242) (b := true) rfl (congrArg AV.bool hb28) rfl rfl ?_
                            refine wo_not (tj := 242) (b := true) rfl (congrArg AV.bool hb28) rfl rfl ?_
                            refine wo_not (tj := 242) (b := true) rfl (congrArg AV.bool hb28) rfl rfl ?_
                            refine wo_not (tj := 242) (b := true) rfl (congrArg AV.bool hb28) rfl rfl ?_
                            refine wo_not (tj := 242) (b := true) rfl (congrArg AV.bool hb28) rfl rfl ?_
                            refine wo_val (.bool true) rfl (pv_pick (t := true) (congrArg AV.bool hb28) rfl) ?_
                            exact wo_is [(2, (.ptr (ix ids 0) g 0 0)), (3, (.ptr (ix ids 1) g1 0 0)), (12, (.int .i64 (j3 : Int))), (13, (.ptr (ix ids 6) g6 0 0)), (14, (.ptr (ix ids 7) g7 0 0)), (248, (.bool ((!(a7.Name == a8.Name)) || (!(a7.In == a8.In)))))] (.cons rfl (.cons rfl (.cons rfl (.cons rfl (.cons rfl (.cons (or_t hb28) .nil)))))) hJ14
                          · refine wo_valg (tj := 242) (.ptr (ix ids 6) g6 0 1) rfl (congrArg AV.bool hb28) rfl (pv_fa (fa_ptr (c := 0) (off := 1) (i := 1) ti57 rfl ti9 rfl)) ?_
                            refine wo_valg (tj := 242) (.str a7.In) rfl (congrArg AV.bool hb28) rfl (pv_load (ld_ptr hI rfl rfl rfl ti9 rfl)) ?_
                            refine wo_valg (tj := 242) (.ptr (ix ids 7) g7 0 1) rfl (congrArg AV.bool hb28) rfl (pv_fa (fa_ptr (c := 0) (off := 1) (i := 1) ti57 rfl ti9 rfl)) ?_
                            refine wo_valg (tj := 242) (.str a8.In) rfl (congrArg AV.bool hb28) rfl (pv_load (ld_ptr hI rfl rfl rfl ti9 rfl)) ?_
                            refine wo_valg (tj := 242) (.bool (!(a7.In == a8.In))) rfl (congrArg AV.bool hb28) rfl (pv_bin rfl rfl rfl) ?_
                            refine wo_val (.bool (!(a7.In == a8.In))) rfl (pv_pick (t := false) (congrArg AV.bool hb28) rfl) ?_
                            exact wo_is [(2, (.ptr (ix ids 0) g 0 0)), (3, (.ptr (ix ids 1) g1 0 0)), (12, (.int .i64 (j3 : Int))), (13, (.ptr (ix ids 6) g6 0 0)), (14, (.ptr (ix ids 7) g7 0 0)), (248, (.bool ((!(a7.Name == a8.Name)) || (!(a7.In == a8.In)))))] (.cons rfl (.cons rfl (.cons rfl (.cons rfl (.cons rfl (.cons (or_f hb28) .nil)))))) hJ14
                        · rintro _ fr h ⟨rfl, rfl⟩
                          refine wr_mod (alt_inl _ _ _) ?_
                          refine wr_seq ?_
                          refine wr_seq ?_
                          refine wr_region ?_
                          refine wo_val (.int .i64 (a.Segments.length : Int)) rfl pv_move ?_
                          refine wo_val (.ptr (ix ids 0) g 0 3) rfl (pv_fa (fa_ptr (c := 0) (off := 3) (i := 3) ti31 rfl ti25 rfl)) ?_
                          refine wo_val (.sl 5 (List.map rSegment a.Segments)) rfl (pv_load (ld_ptr hI rfl rfl rfl ti25 rfl)) ?_
                          refine wo_val (.int .i64 (a.Segments.length : Int)) rfl (pv_len (len_sl ti25)) ?_
                          refine wo_val (.bool (decide ((a.Segments.length : Int) < (a.Segments.length : Int)))) rfl (pv_bin rfl rfl rfl) ?_
                          refine wo_nil ?_
                          refine wr_condF rfl (Int.lt_irrefl _) ?_
                          refine wr_exit rfl ?_
                          refine wr_seq ?_
                          refine wr_seq ?_
                          refine wr_region ?_
                          refine wo_val (.int .i64 0) rfl pv_assign ?_
                          refine wo_nil ?_
                          refine wr_block ?_
                          refine wr_is [(2, (.ptr (ix ids 0) g 0 0)), (3, (.ptr (ix ids 1) g1 0 0)), (15, (.int .i64 0))] (.cons rfl (.cons rfl (.cons rfl .nil))) ?_
                          refine wf_each' (P := Try.prog) a.Routes (fun j4 a9 => fun _ => ref08_Same_b5 b j4 a9) ((alt (fun _ => (each (fun j5 a11 => fun _ => ref08_Same_b7 b j5 a11) 0 a.Airports ()).bind (alt (fun _ => (each (fun j7 a15 => fun _ => ref08_Same_b8 b j7 a15) 0 a.Classes ()).bind (alt (fun _ => (each (fun j8 a17 => fun _ => ref08_Same_b9 b j8 a17) 0 a.Rules ()).bind (alt (fun _ => .ok true) (fun r => .ok r))) (fun r => .ok r))) (fun r => .ok r))) (fun r => .ok r)) : (Unit ⊕ Bool) → R Bool)
                            (fun j4 => fun _ => fun (fr : Nat → AV) (h : AHeap) => fr = frA [(2, (.ptr (ix ids 0) g 0 0)), (3, (.ptr (ix ids 1) g1 0 0)), (15, (.int .i64 (j4 : Int)))] ∧ h = hp h0 ids [(some (.rows g 8 [(rAirspace a)])), (some (.rows g1 8 [(rAirspace b)])), none, none, none, none, none, none, none, none, none, none]) () ?_ ?_ ?_
                          · exact ⟨rfl, rfl⟩
                          · rintro j4 a9 ha9 W hW4 _ fr h ⟨rfl, rfl⟩
                            refine wr_mod (m' := ref08_Same_b5 b j4 a9) rfl (wr_mod (ref08_Same_b5.eq_1 _ _ _) ?_)
                            refine wr_seq ?_
                            refine wr_seq ?_
                            refine wr_region ?_
                            refine wo_val (.int .i64 (j4 : Int)) rfl pv_move ?_
                            refine wo_val (.ptr (ix ids 0) g 0 4) rfl (pv_fa (fa_ptr (c := 0) (off := 4) (i := 4) ti31 rfl ti26 rfl)) ?_
                            refine wo_val (.sl 7 (List.map rRoute a.Routes)) rfl (pv_load (ld_ptr hI rfl rfl rfl ti26 rfl)) ?_
                            refine wo_val (.int .i64 (a.Routes.length : Int)) rfl (pv_len (len_sl ti26)) ?_
                            refine wo_val (.bool (decide ((j4 : Int) < (a.Routes.length : Int)))) rfl (pv_bin rfl rfl rfl) ?_
                            refine wo_nil ?_
                            refine wr_lim (t := 273) (L := a.Routes) rfl fun hlim9 => ?_
                            refine wr_condT rfl (Int.ofNat_lt.2 (lt_of_get ha9)) ?_
                            refine wr_skip ?_
                            refine wr_seq ?_
                            refine wr_block ?_
                            refine wr_seq ?_
                            refine wr_region ?_
                            refine wo_val (.ptr (ix ids 0) g 0 4) rfl (pv_fa (fa_ptr (c := 0) (off := 4) (i := 4) ti31 rfl ti26 rfl)) ?_
                            refine wo_val (.sl 7 (List.map rRoute a.Routes)) rfl (pv_load (ld_ptr hI rfl rfl rfl ti26 rfl)) ?_
                            refine wo_val (.int .i64 (j4 : Int)) rfl pv_move ?_
                            refine wo_val (.cp (rRoute a9) 0) rfl (pv_ixa (ixa_nat ti26 ti59 rfl ha9)) ?_
                            refine wo_val (.agg (rRoute a9)) rfl (pv_load (ld_cp ti59 rfl)) ?_
                            refine wo_alloc (j := 8) hI rfl rfl rfl rfl ti59 rfl fun g8 => ?_
                            refine wo_store (st_ptr hI rfl rfl rfl rfl ti59 rfl rfl rfl rfl rfl) ?_
                            refine wo_nil ?_
                            refine wr_hp [(some (.rows g 8 [(rAirspace a)])), (some (.rows g1 8 [(rAirspace b)])), none, none, none, none, none, none, (some (.rows g8 7 [(rRoute a9)])), none, none, none] rfl ?_
                            refine wr_seq ?_
                            refine wr_region ?_
                            refine wo_val (.ptr (ix ids 1) g1 0 4) rfl (pv_fa (fa_ptr (c := 0) (off := 4) (i := 4) ti31 rfl ti26 rfl)) ?_
                            refine wo_val (.sl 7 (List.map rRoute b.Routes)) rfl (pv_load (ld_ptr hI rfl rfl rfl ti26 rfl)) ?_
                            refine wo_val (.int .i64 (j4 : Int)) rfl pv_move ?_
                            refine of_idx fun a10 hz4 hx5 => ?_
                            refine wo_val (.cp (rRoute a10) 0) rfl (pv_ixa (ixa_sl ti26 ti59 rfl hz4 hx5)) ?_
                            refine wo_val (.agg (rRoute a10)) rfl (pv_load (ld_cp ti59 rfl)) ?_
                            refine wo_alloc (j := 9) hI rfl rfl rfl rfl ti59 rfl fun g9 => ?_
                            refine wo_store (st_ptr hI rfl rfl rfl rfl ti59 rfl rfl rfl rfl rfl) ?_
                            refine wo_nil ?_
                            refine wr_hp [(some (.rows g 8 [(rAirspace a)])), (some (.rows g1 8 [(rAirspace b)])), none, none, none, none, none, none, (some (.rows g8 7 [(rRoute a9)])), (some (.rows g9 7 [(rRoute a10)])), none, none] rfl ?_
                            refine wr_seq ?_
                            refine wr_region ?_
                            refine wo_val (.ptr (ix ids 8) g8 0 0) rfl (pv_fa (fa_ptr (c := 0) (off := 0) (i := 0) ti59 rfl ti9 rfl)) ?_
                            refine wo_val (.str a9.Name) rfl (pv_load (ld_ptr hI rfl rfl rfl ti9 rfl)) ?_
                            refine wo_val (.ptr (ix ids 9) g9 0 0) rfl (pv_fa (fa_ptr (c := 0) (off := 0) (i := 0) ti59 rfl ti9 rfl)) ?_
                            refine wo_val (.str a10.Name) rfl (pv_load (ld_ptr hI rfl rfl rfl ti9 rfl)) ?_
                            refine wo_val (.bool (!(a9.Name == a10.Name))) rfl (pv_bin rfl rfl rfl) ?_
                            refine wo_val (.bool (!(a9.Name == a10.Name))) rfl pv_move ?_
                            refine wo_meet 6 [(2, (.ptr (ix ids 0) g 0 0)), (3, (.ptr (ix ids 1) g1 0 0)), (15, (.int .i64 (j4 : Int))), (16, (.ptr (ix ids 8) g8 0 0)), (17, (.ptr (ix ids 9) g9 0 0)), (299, (.bool ((!(a9.Name == a10.Name)) || (!(a9.A == a10.A)))))] ?_ fun hJ18 => wo_cases (!(a9.Name == a10.Name)) (fun hb36 => ?_) (fun hb36 => ?_)
                            · refine wo_val (.bool ((!(a9.Name == a10.Name)) || (!(a9.A == a10.A)))) rfl pv_move ?_
                              refine wo_meet 6 [(2, (.ptr (ix ids 0) g 0 0)), (3, (.ptr (ix ids 1) g1 0 0)), (15, (.int .i64 (j4 : Int))), (16, (.ptr (ix ids 8) g8 0 0)), (17, (.ptr (ix ids 9) g9 0 0)), (306, (.bool (((!(a9.Name == a10.Name)) || (!(a9.A == a10.A))) || (!(a9.B == a10.B)))))] ?_ fun hJ19 => wo_cases ((!(a9.Name == a10.Name)) || (!(a9.A == a10.A))) (fun hb38 => ?_) (fun hb38 => ?_)
                              · refine wo_val (.bool (((!(a9.Name == a10.Name)) || (!(a9.A == a10.A))) || (!(a9.B == a10.B)))) rfl pv_move ?_
                                refine wo_meet 6 [(2, (.ptr (ix ids 0) g 0 0)), (3, (.ptr (ix ids 1) g1 0 0)), (15, (.int .i64 (j4 : Int))), (16, (.ptr (ix ids 8) g8 0 0)), (17, (.ptr (ix ids 9) g9 0 0)), (313, (.bool ((((!(a9.Name == a10.Name)) || (!(a9.A == a10.A))) || (!(a9.B == a10.B))) || (a9.From != a10.From))))] ?_ fun hJ20 => wo_cases (((!(a9.Name == a10.Name)) || (!(a9.A == a10.A))) || (!(a9.B == a10.B))) (fun hb40 => ?_) (fun hb40 => ?_)
                                · refine wo_val (.bool ((((!(a9.Name == a10.Name)) || (!(a9.A == a10.A))) || (!(a9.B == a10.B))) || (a9.From != a10.From))) rfl pv_move ?_
                                  refine wo_meet 6 [(2, (.ptr (ix ids 0) g 0 0)), (3, (.ptr (ix ids 1) g1 0 0)), (15, (.int .i64 (j4 : Int))), (16, (.ptr (ix ids 8) g8 0 0)), (17, (.ptr (ix ids 9) g9 0 0)), (320, (.bool (((((!(a9.Name == a10.Name)) || (!(a9.A == a10.A))) || (!(a9.B == a10.B))) || (a9.From != a10.From)) || (a9.To != a10.To))))] ?_ fun hJ21 => wo_cases ((((!(a9.Name == a10.Name)) || (!(a9.A == a10.A))) || (!(a9.B == a10.B))) || (a9.From != a10.From)) (fun hb42 => ?_) (fun hb42 => ?_)
                                  · refine wo_val (.bool (((((!(a9.Name == a10.Name)) || (!(a9.A == a10.A))) || (!(a9.B == a10.B))) || (a9.From != a10.From)) || (a9.To != a10.To))) rfl pv_move ?_
                                    refine wo_join 7 ((fun (b6 : Bool) => (if b6 then R.ok true else (ref08_SameInts a9.Segments a10.Segments).bind fun r7 =>
  R.ok (!r7)).bind (fun (b7 : Bool) => if b7 then
(.ok (.inr (false)))
else
(.ok (.inl ())))) : Bool → R (Unit ⊕ Bool)) (fun (b6 : Bool) (fr : Nat → AV) (h : AHeap) => fr = frA [(2, (.ptr (ix ids 0) g 0 0)), (3, (.ptr (ix ids 1) g1 0 0)), (15, (.int .i64 (j4 : Int))), (16, (.ptr (ix ids 8) g8 0 0)), (17, (.ptr (ix ids 9) g9 0 0)), (328, (.bool b6))] ∧ h = hp h0 ids [(some (.rows g 8 [(rAirspace a)])), (some (.rows g1 8 [(rAirspace b)])), none, none, none, none, none, none, (some (.rows g8 7 [(rRoute a9)])), (some (.rows g9 7 [(rRoute a10)])), none, none]) ?_ fun hJ22 => of_if1 (fun hb44 => ?_) (fun hb44 => ?_)
                                    · rintro b6 fr h ⟨rfl, rfl⟩
                                      refine wo_val (.bool b6) rfl pv_move ?_
                                      refine wo_join 7 ((fun (b7 : Bool) => if b7 then
(.ok (.inr (false)))
else
(.ok (.inl ()))) : Bool → R (Unit ⊕ Bool)) (fun (b7 : Bool) (fr : Nat → AV) (h : AHeap) => fr = frA [(2, (.ptr (ix ids 0) g 0 0)), (3, (.ptr (ix ids 1) g1 0 0)), (15, (.int .i64 (j4 : Int))), (336, (.bool b7))] ∧ h = hp h0 ids [(some (.rows g 8 [(rAirspace a)])), (some (.rows g1 8 [(rAirspace b)])), none, none, none, none, none, none, (some (.rows g8 7 [(rRoute a9)])), (some (.rows g9 7 [(rRoute a10)])), none, none]) ?_ fun hJ23 => of_if1 (fun hb46 => ?_) (fun hb46 => ?_)
                                      · rintro b7 fr h ⟨rfl, rfl⟩
                                        refine wo_nil ?_
                                        refine wf_iteb rfl (fun hc5 => ?_) (fun hc5 => ?_)
                                        · refine wr_seq ?_
                                          refine wr_region ?_
                                          refine wo_val (.bool false) rfl pv_assign ?_
                                          refine wo_nil ?_
                                          refine wx_each ?_
                                          refine w_altr ?_
                                          exact wr_ret (a := false) (vs := [(.bool false)]) Try.func14 hI rfl (.same _)
                                        · refine wr_skip ?_
                                          refine wr_inBlock ?_
                                          refine wr_region ?_
                                          refine wo_val (.int .i64 (j4 : Int)) rfl pv_move ?_
                                          refine wo_val (.int .i64 (IntKind.wrap .i64 ((j4 : Int) + 1))) rfl (pv_bin rfl rfl rfl) ?_
                                          refine wo_val (.int .i64 (IntKind.wrap .i64 ((j4 : Int) + 1))) rfl pv_assign ?_
                                          refine wo_nil ?_
                                          refine wr_drop [(some (.rows g 8 [(rAirspace a)])), (some (.rows g1 8 [(rAirspace b)])), none, none, none, none, none, none, none, none, none, none] hI rfl (.keep (.keep (.keep (.keep (.keep (.keep (.keep (.keep (.drop (.drop (.keep (.keep .nil)))))))))))) ?_
                                          refine wr_is [(2, (.ptr (ix ids 0) g 0 0)), (3, (.ptr (ix ids 1) g1 0 0)), (15, (.int .i64 ((j4 + 1 : Nat) : Int)))] (.cons rfl (.cons rfl (.cons (inc_ok (lt_of_get ha9) hlim9) .nil))) ?_
                                          refine wb_each ?_
                                          refine hW4 () _ _ ?_
                                          exact ⟨rfl, rfl⟩
                                      · refine wo_not (tj := 329) (b := true) rfl (congrArg AV.bool hb46) rfl rfl ?_
                                        refine wo_not (tj := 329) (b := true) rfl (congrArg AV.bool hb46) rfl rfl ?_
                                        refine wo_not (tj := 329) (b := true) rfl (congrArg AV.bool hb46) rfl rfl ?_
                                        refine wo_not (tj := 329) (b := true) rfl (congrArg AV.bool hb46) rfl rfl ?_
                                        refine wo_not (tj := 329) (b := true) rfl (congrArg AV.bool hb46) rfl rfl ?_
                                        refine wo_not (tj := 329) (b := true) rfl (congrArg AV.bool hb46) rfl rfl ?_
                                        refine wo_val (.bool true) rfl (pv_pick (t := true) (congrArg AV.bool hb46) rfl) ?_
                                        refine wo_back1 ?_
                                        refine wo_is [(2, (.ptr (ix ids 0) g 0 0)), (3, (.ptr (ix ids 1) g1 0 0)), (15, (.int .i64 (j4 : Int))), (336, (.bool true))] (.cons rfl (.cons rfl (.cons rfl (.cons rfl .nil)))) ?_
                                        exact hJ23 true _ _ ⟨rfl, rfl⟩
                                      · refine wo_valg (tj := 329) (.ptr (ix ids 8) g8 0 6) rfl (congrArg AV.bool hb46) rfl (pv_fa (fa_ptr (c := 0) (off := 6) (i := 6) ti59 rfl ti51 rfl)) ?_
                                        refine wo_valg (tj := 329) (.sl 1 (List.map (rI .i64) a9.Segments)) rfl (congrArg AV.bool hb46) rfl (pv_load (ld_ptr hI rfl rfl rfl ti51 rfl)) ?_
                                        refine wo_valg (tj := 329) (.ptr (ix ids 9) g9 0 6) rfl (congrArg AV.bool hb46) rfl (pv_fa (fa_ptr (c := 0) (off := 6) (i := 6) ti59 rfl ti51 rfl)) ?_
                                        refine wo_valg (tj := 329) (.sl 1 (List.map (rI .i64) a10.Segments)) rfl (congrArg AV.bool hb46) rfl (pv_load (ld_ptr hI rfl rfl rfl ti51 rfl)) ?_
                                        refine of_call [(.sl 1 (List.map (rI .i64) a9.Segments)), (.sl 1 (List.map (rI .i64) a10.Segments))] rfl (wanted_yes (tj := 329) rfl (congrArg AV.bool hb46)) rfl rfl ((cp_ref08_SameInts a9.Segments a10.Segments) _) (fun v _ => wu_pan Try.func14 hI) fun r7 _ => ?_
                                        refine wo_valg (tj := 329) (.bool (!r7)) rfl (congrArg AV.bool hb46) rfl (pv_un rfl) ?_
                                        refine wo_val (.bool (!r7)) rfl (pv_pick (t := false) (congrArg AV.bool hb46) rfl) ?_
                                        refine wo_back1 ?_
                                        refine wo_is [(2, (.ptr (ix ids 0) g 0 0)), (3, (.ptr (ix ids 1) g1 0 0)), (15, (.int .i64 (j4 : Int))), (336, (.bool (!r7)))] (.cons rfl (.cons rfl (.cons rfl (.cons rfl .nil)))) ?_
                                        exact hJ23 (!r7) _ _ ⟨rfl, rfl⟩
                                    · refine wo_not (tj := 321) (b := true) rfl (congrArg AV.bool hb44) rfl rfl ?_
                                      refine wo_not (tj := 321) (b := true) rfl (congrArg AV.bool hb44) rfl rfl ?_
                                      refine wo_not (tj := 321) (b := true) rfl (congrArg AV.bool hb44) rfl rfl ?_
                                      refine wo_not (tj := 321) (b := true) rfl (congrArg AV.bool hb44) rfl rfl ?_
                                      refine wo_not (tj := 321) (b := true) rfl (congrArg AV.bool hb44) rfl rfl ?_
                                      refine wo_not (tj := 321) (b := true) rfl (congrArg AV.bool hb44) rfl rfl ?_
                                      refine wo_val (.bool true) rfl (pv_pick (t := true) (congrArg AV.bool hb44) rfl) ?_
                                      refine wo_back1 ?_
                                      refine wo_is [(2, (.ptr (ix ids 0) g 0 0)), (3, (.ptr (ix ids 1) g1 0 0)), (15, (.int .i64 (j4 : Int))), (16, (.ptr (ix ids 8) g8 0 0)), (17, (.ptr (ix ids 9) g9 0 0)), (328, (.bool true))] (.cons rfl (.cons rfl (.cons rfl (.cons rfl (.cons rfl (.cons rfl .nil)))))) ?_
                                      exact hJ22 true _ _ ⟨rfl, rfl⟩
                                    · refine wo_valg (tj := 321) (.ptr (ix ids 8) g8 0 5) rfl (congrArg AV.bool hb44) rfl (pv_fa (fa_ptr (c := 0) (off := 5) (i := 5) ti59 rfl ti38 rfl)) ?_
                                      refine wo_valg (tj := 321) (.sl 1 (List.map rS a9.Names)) rfl (congrArg AV.bool hb44) rfl (pv_load (ld_ptr hI rfl rfl rfl ti38 rfl)) ?_
                                      refine wo_valg (tj := 321) (.ptr (ix ids 9) g9 0 5) rfl (congrArg AV.bool hb44) rfl (pv_fa (fa_ptr (c := 0) (off := 5) (i := 5) ti59 rfl ti38 rfl)) ?_
                                      refine wo_valg (tj := 321) (.sl 1 (List.map rS a10.Names)) rfl (congrArg AV.bool hb44) rfl (pv_load (ld_ptr hI rfl rfl rfl ti38 rfl)) ?_
                                      refine of_call [(.sl 1 (List.map rS a9.Names)), (.sl 1 (List.map rS a10.Names))] rfl (wanted_yes (tj := 321) rfl (congrArg AV.bool hb44)) rfl rfl ((cp_ref08_SameNames a9.Names a10.Names) _) (fun v _ => wu_pan Try.func14 hI) fun r6 _ => ?_
                                      refine wo_valg (tj := 321) (.bool (!r6)) rfl (congrArg AV.bool hb44) rfl (pv_un rfl) ?_
                                      refine wo_val (.bool (!r6)) rfl (pv_pick (t := false) (congrArg AV.bool hb44) rfl) ?_
                                      refine wo_back1 ?_
                                      refine wo_is [(2, (.ptr (ix ids 0) g 0 0)), (3, (.ptr (ix ids 1) g1 0 0)), (15, (.int .i64 (j4 : Int))), (16, (.ptr (ix ids 8) g8 0 0)), (17, (.ptr (ix ids 9) g9 0 0)), (328, (.bool (!r6)))] (.cons rfl (.cons rfl (.cons rfl (.cons rfl (.cons rfl (.cons rfl .nil)))))) ?_
                                      exact hJ22 (!r6) _ _ ⟨rfl, rfl⟩
                                  · refine wo_not (tj := 314) (b := true) rfl (congrArg AV.bool hb42) rfl rfl ?_
                                    refine wo_not (tj := 314) (b := true) rfl (congrArg AV.bool hb42) rfl rfl ?_
                                    refine wo_not (tj := 314) (b := true) rfl (congrArg AV.bool hb42) rfl rfl ?_
                                    refine wo_not (tj := 314) (b := true) rfl (congrArg AV.bool hb42) rfl rfl ?_
                                    refine wo_not (tj := 314) (b := true) rfl (congrArg AV.bool hb42) rfl rfl ?_
                                    refine wo_val (.bool true) rfl (pv_pick (t := true) (congrArg AV.bool hb42) rfl) ?_
                                    exact wo_is [(2, (.ptr (ix ids 0) g 0 0)), (3, (.ptr (ix ids 1) g1 0 0)), (15, (.int .i64 (j4 : Int))), (16, (.ptr (ix ids 8) g8 0 0)), (17, (.ptr (ix ids 9) g9 0 0)), (320, (.bool (((((!(a9.Name == a10.Name)) || (!(a9.A == a10.A))) || (!(a9.B == a10.B))) || (a9.From != a10.From)) || (a9.To != a10.To))))] (.cons rfl (.cons rfl (.cons rfl (.cons rfl (.cons rfl (.cons (or_t hb42) .nil)))))) hJ21
                                  · refine wo_valg (tj := 314) (.ptr (ix ids 8) g8 0 4) rfl (congrArg AV.bool hb42) rfl (pv_fa (fa_ptr (c := 0) (off := 4) (i := 4) ti59 rfl ti3 rfl)) ?_
                                    refine wo_valg (tj := 314) (.int .i64 a9.To) rfl (congrArg AV.bool hb42) rfl (pv_load (ld_ptr hI rfl rfl rfl ti3 rfl)) ?_
                                    refine wo_valg (tj := 314) (.ptr (ix ids 9) g9 0 4) rfl (congrArg AV.bool hb42) rfl (pv_fa (fa_ptr (c := 0) (off := 4) (i := 4) ti59 rfl ti3 rfl)) ?_
                                    refine wo_valg (tj := 314) (.int .i64 a10.To) rfl (congrArg AV.bool hb42) rfl (pv_load (ld_ptr hI rfl rfl rfl ti3 rfl)) ?_
                                    refine wo_valg (tj := 314) (.bool (a9.To != a10.To)) rfl (congrArg AV.bool hb42) rfl (pv_bin rfl rfl rfl) ?_
                                    refine wo_val (.bool (a9.To != a10.To)) rfl (pv_pick (t := false) (congrArg AV.bool hb42) rfl) ?_
                                    exact wo_is [(2, (.ptr (ix ids 0) g 0 0)), (3, (.ptr (ix ids 1) g1 0 0)), (15, (.int .i64 (j4 : Int))), (16, (.ptr (ix ids 8) g8 0 0)), (17, (.ptr (ix ids 9) g9 0 0)), (320, (.bool (((((!(a9.Name == a10.Name)) || (!(a9.A == a10.A))) || (!(a9.B == a10.B))) || (a9.From != a10.From)) || (a9.To != a10.To))))] (.cons rfl (.cons rfl (.cons rfl (.cons rfl (.cons rfl (.cons (or_f hb42) .nil)))))) hJ21
                                · refine wo_not (tj := 307) (b := true) rfl (congrArg AV.bool hb40) rfl rfl ?_
                                  refine wo_not (tj := 307) (b := true) rfl (congrArg AV.bool hb40) rfl rfl ?_
                                  refine wo_not (tj := 307) (b := true) rfl (congrArg AV.bool hb40) rfl rfl ?_
                                  refine wo_not (tj := 307) (b := true) rfl (congrArg AV.bool hb40) rfl rfl ?_
                                  refine wo_not (tj := 307) (b := true) rfl (congrArg AV.bool hb40) rfl rfl ?_
                                  refine wo_val (.bool true) rfl (pv_pick (t := true) (congrArg AV.bool hb40) rfl) ?_
                                  exact wo_is [(2, (.ptr (ix ids 0) g 0 0)), (3, (.ptr (ix ids 1) g1 0 0)), (15, (.int .i64 (j4 : Int))), (16, (.ptr (ix ids 8) g8 0 0)), (17, (.ptr (ix ids 9) g9 0 0)), (313, (.bool ((((!(a9.Name == a10.Name)) || (!(a9.A == a10.A))) || (!(a9.B == a10.B))) || (a9.From != a10.From))))] (.cons rfl (.cons rfl (.cons rfl (.cons rfl (.cons rfl (.cons (or_t hb40) .nil)))))) hJ20
                                · refine wo_valg (tj := 307) (.ptr (ix ids 8) g8 0 3) rfl (congrArg AV.bool hb40) rfl (pv_fa (fa_ptr (c := 0) (off := 3) (i := 3) ti59 rfl ti3 rfl)) ?_
                                  refine wo_valg (tj := 307) (.int .i64 a9.From) rfl (congrArg AV.bool hb40) rfl (pv_load (ld_ptr hI rfl rfl rfl ti3 rfl)) ?_
                                  refine wo_valg (tj := 307) (.ptr (ix ids 9) g9 0 3) rfl (congrArg AV.bool hb40) rfl (pv_fa (fa_ptr (c := 0) (off := 3) (i := 3) ti59 rfl ti3 rfl)) ?_
                                  refine wo_valg (tj := 307) (.int .i64 a10.From) rfl (congrArg AV.bool hb40) rfl (pv_load (ld_ptr hI rfl rfl rfl ti3 rfl)) ?_
                                  refine wo_valg (tj := 307) (.bool (a9.From != a10.From)) rfl (congrArg AV.bool hb40) rfl (pv_bin rfl rfl rfl) ?_
                                  refine wo_val (.bool (a9.From != a10.From)) rfl (pv_pick (t := false) (congrArg AV.bool hb40) rfl) ?_
                                  exact wo_is [(2, (.ptr (ix ids 0) g 0 0)), (3, (.ptr (ix ids 1) g1 0 0)), (15, (.int .i64 (j4 : Int))), (16, (.ptr (ix ids 8) g8 0 0)), (17, (.ptr (ix ids 9) g9 0 0)), (313, (.bool ((((!(a9.Name == a10.Name)) || (!(a9.A == a10.A))) || (!(a9.B == a10.B))) || (a9.From != a10.From))))] (.cons rfl (.cons rfl (.cons rfl (.cons rfl (.cons rfl (.cons (or_f hb40) .nil)))))) hJ20
                              · refine wo_not (tj := 300) (b := true) rfl (congrArg AV.bool hb38) rfl rfl ?_
                                refine wo_not (tj := 300) (b := true) rfl (congrArg AV.bool hb38) rfl rfl ?_
                                refine wo_not (tj := 300) (b := true) rfl (congrArg AV.bool hb38) rfl rfl ?_
                                refine wo_not (tj := 300) (b := true) rfl (congrArg AV.bool hb38) rfl rfl ?_
                                refine wo_not (tj := 300) (b := true) rfl (congrArg AV.bool hb38) rfl rfl ?_
                                refine wo_val (.bool true) rfl (pv_pick (t := true) (congrArg AV.bool hb38) rfl) ?_
                                exact wo_is [(2, (.ptr (ix ids 0) g 0 0)), (3, (.ptr (ix ids 1) g1 0 0)), (15, (.int .i64 (j4 : Int))), (16, (.ptr (ix ids 8) g8 0 0)), (17, (.ptr (ix ids 9) g9 0 0)), (306, (.bool (((!(a9.Name == a10.Name)) || (!(a9.A == a10.A))) || (!(a9.B == a10.B)))))] (.cons rfl (.cons rfl (.cons rfl (.cons rfl (.cons rfl (.cons (or_t hb38) .nil)))))) hJ19
                              · refine wo_valg (tj := 300) (.ptr (ix ids 8) g8 0 2) rfl (congrArg AV.bool hb38) rfl (pv_fa (fa_ptr (c := 0) (off := 2) (i := 2) ti59 rfl ti9 rfl)) ?_
                                refine wo_valg (tj := 300) (.str a9.B) rfl (congrArg AV.bool hb38) rfl (pv_load (ld_ptr hI rfl rfl rfl ti9 rfl)) ?_
                                refine wo_valg (tj := 300) (.ptr (ix ids 9) g9 0 2) rfl (congrArg AV.bool hb38) rfl (pv_fa (fa_ptr (c := 0) (off := 2) (i := 2) ti59 rfl ti9 rfl)) ?_
                                refine wo_valg (tj := 300) (.str a10.B) rfl (congrArg AV.bool hb38) rfl (pv_load (ld_ptr hI rfl rfl rfl ti9 rfl)) ?_
                                refine wo_valg (tj := 300) (.bool (!(a9.B == a10.B))) rfl (congrArg AV.bool hb38) rfl (pv_bin rfl rfl rfl) ?_
                                refine wo_val (.bool (!(a9.B == a10.B))) rfl (pv_pick (t := false) (congrArg AV.bool hb38) rfl) ?_
                                exact wo_is [(2, (.ptr (ix ids 0) g 0 0)), (3, (.ptr (ix ids 1) g1 0 0)), (15, (.int .i64 (j4 : Int))), (16, (.ptr (ix ids 8) g8 0 0)), (17, (.ptr (ix ids 9) g9 0 0)), (306, (.bool (((!(a9.Name == a10.Name)) || (!(a9.A == a10.A))) || (!(a9.B == a10.B)))))] (.cons rfl (.cons rfl (.cons rfl (.cons rfl (.cons rfl (.cons (or_f hb38) .nil)))))) hJ19
                            · refine wo_not (tj := 293) (b := true) rfl (congrArg AV.bool hb36) rfl rfl ?_
                              refine wo_not (tj := 293) (b := true) rfl (congrArg AV.bool hb36) rfl rfl ?_
                              refine wo_not (tj := 293) (b := true) rfl (congrArg AV.bool hb36) rfl rfl ?_
                              refine wo_not (tj := 293) (b := true) rfl (congrArg AV.bool hb36) rfl rfl ?_
                              refine wo_not (tj := 293) (b := true) rfl (congrArg AV.bool hb36) rfl rfl ?_
                              refine wo_val (.bool true) rfl (pv_pick (t := true) (congrArg AV.bool hb36) rfl) ?_
                              exact wo_is [(2, (.ptr (ix ids 0) g 0 0)), (3, (.ptr (ix ids 1) g1 0 0)), (15, (.int .i64 (j4 : Int))), (16, (.ptr (ix ids 8) g8 0 0)), (17, (.ptr (ix ids 9) g9 0 0)), (299, (.bool ((!(a9.Name == a10.Name)) || (!(a9.A == a10.A)))))] (.cons rfl (.cons rfl (.cons rfl (.cons rfl (.cons rfl (.cons (or_t hb36) .nil)))))) hJ18
                            · refine wo_valg (tj := 293) (.ptr (ix ids 8) g8 0 1) rfl (congrArg AV.bool hb36) rfl (pv_fa (fa_ptr (c := 0) (off := 1) (i := 1) ti59 rfl ti9 rfl)) ?_
                              refine wo_valg (tj := 293) (.str a9.A) rfl (congrArg AV.bool hb36) rfl (pv_load (ld_ptr hI rfl rfl rfl ti9 rfl)) ?_
                              refine wo_valg (tj := 293) (.ptr (ix ids 9) g9 0 1) rfl (congrArg AV.bool hb36) rfl (pv_fa (fa_ptr (c := 0) (off := 1) (i := 1) ti59 rfl ti9 rfl)) ?_
                              refine wo_valg (tj := 293) (.str a10.A) rfl (congrArg AV.bool hb36) rfl (pv_load (ld_ptr hI rfl rfl rfl ti9 rfl)) ?_
                              refine wo_valg (tj := 293) (.bool (!(a9.A == a10.A))) rfl (congrArg AV.bool hb36) rfl (pv_bin rfl rfl rfl) ?_
                              refine wo_val (.bool (!(a9.A == a10.A))) rfl (pv_pick (t := false) (congrArg AV.bool hb36) rfl) ?_
                              exact wo_is [(2, (.ptr (ix ids 0) g 0 0)), (3, (.ptr (ix ids 1) g1 0 0)), (15, (.int .i64 (j4 : Int))), (16, (.ptr (ix ids 8) g8 0 0)), (17, (.ptr (ix ids 9) g9 0 0)), (299, (.bool ((!(a9.Name == a10.Name)) || (!(a9.A == a10.A)))))] (.cons rfl (.cons rfl (.cons rfl (.cons rfl (.cons rfl (.cons (or_f hb36) .nil)))))) hJ18
                          · rintro _ fr h ⟨rfl, rfl⟩
                            refine wr_mod (alt_inl _ _ _) ?_
                            refine wr_seq ?_
                            refine wr_seq ?_
                            refine wr_region ?_
                            refine wo_val (.int .i64 (a.Routes.length : Int)) rfl pv_move ?_
                            refine wo_val (.ptr (ix ids 0) g 0 4) rfl (pv_fa (fa_ptr (c := 0) (off := 4) (i := 4) ti31 rfl ti26 rfl)) ?_
                            refine wo_val (.sl 7 (List.map rRoute a.Routes)) rfl (pv_load (ld_ptr hI rfl rfl rfl ti26 rfl)) ?_
                            refine wo_val (.int .i64 (a.Routes.length : Int)) rfl (pv_len (len_sl ti26)) ?_
                            refine wo_val (.bool (decide ((a.Routes.length : Int) < (a.Routes.length : Int)))) rfl (pv_bin rfl rfl rfl) ?_
                            refine wo_nil ?_
                            refine wr_condF rfl (Int.lt_irrefl _) ?_
                            refine wr_exit rfl ?_
                            refine wr_seq ?_
                            refine wr_seq ?_
                            refine wr_region ?_
                            refine wo_val (.int .i64 0) rfl pv_assign ?_
                            refine wo_nil ?_
                            refine wr_block ?_
                            refine wr_is [(2, (.ptr (ix ids 0) g 0 0)), (3, (.ptr (ix ids 1) g1 0 0)), (18, (.int .i64 0))] (.cons rfl (.cons rfl (.cons rfl .nil))) ?_
                            refine wf_each' (P := Try.prog) a.Airports (fun j5 a11 => fun _ => ref08_Same_b7 b j5 a11) ((alt (fun _ => (each (fun j7 a15 => fun _ => ref08_Same_b8 b j7 a15) 0 a.Classes ()).bind (alt (fun _ => (each (fun j8 a17 => fun _ => ref08_Same_b9 b j8 a17) 0 a.Rules ()).bind (alt (fun _ => .ok true) (fun r => .ok r))) (fun r => .ok r))) (fun r => .ok r)) : (Unit ⊕ Bool) → R Bool)
                              (fun j5 => fun _ => fun (fr : Nat → AV) (h : AHeap) => fr = frA [(2, (.ptr (ix ids 0) g 0 0)), (3, (.ptr (ix ids 1) g1 0 0)), (18, (.int .i64 (j5 : Int)))] ∧ h = hp h0 ids [(some (.rows g 8 [(rAirspace a)])), (some (.rows g1 8 [(rAirspace b)])), none, none, none, none, none, none, none, none, none, none]) () ?_ ?_ ?_
                            · exact ⟨rfl, rfl⟩
                            · rintro j5 a11 ha11 W hW5 _ fr h ⟨rfl, rfl⟩
                              refine wr_mod (m' := ref08_Same_b7 b j5 a11) rfl (wr_mod (ref08_Same_b7.eq_1 _ _ _) ?_)
                              refine wr_seq ?_
                              refine wr_seq ?_
                              refine wr_region ?_
                              refine wo_val (.int .i64 (j5 : Int)) rfl pv_move ?_
                              refine wo_val (.ptr (ix ids 0) g 0 5) rfl (pv_fa (fa_ptr (c := 0) (off := 5) (i := 5) ti31 rfl ti27 rfl)) ?_
                              refine wo_val (.sl 2 (List.map rAirport a.Airports)) rfl (pv_load (ld_ptr hI rfl rfl rfl ti27 rfl)) ?_
                              refine wo_val (.int .i64 (a.Airports.length : Int)) rfl (pv_len (len_sl ti27)) ?_
                              refine wo_val (.bool (decide ((j5 : Int) < (a.Airports.length : Int)))) rfl (pv_bin rfl rfl rfl) ?_
                              refine wo_nil ?_
                              refine wr_lim (t := 339) (L := a.Airports) rfl fun hlim11 => ?_
                              refine wr_condT rfl (Int.ofNat_lt.2 (lt_of_get ha11)) ?_
                              refine wr_skip ?_
                              refine wr_seq ?_
                              refine wr_block ?_
                              refine wr_seq ?_
                              refine wr_region ?_
                              refine wo_val (.ptr (ix ids 0) g 0 5) rfl (pv_fa (fa_ptr (c := 0) (off := 5) (i := 5) ti31 rfl ti27 rfl)) ?_
                              refine wo_val (.sl 2 (List.map rAirport a.Airports)) rfl (pv_load (ld_ptr hI rfl rfl rfl ti27 rfl)) ?_
                              refine wo_val (.int .i64 (j5 : Int)) rfl pv_move ?_
                              refine wo_val (.cp (rAirport a11) 0) rfl (pv_ixa (ixa_nat ti27 ti46 rfl ha11)) ?_
                              refine wo_val (.agg (rAirport a11)) rfl (pv_load (ld_cp ti46 rfl)) ?_
                              refine wo_alloc (j := 10) hI rfl rfl rfl rfl ti46 rfl fun g10 => ?_
                              refine wo_store (st_ptr hI rfl rfl rfl rfl ti46 rfl rfl rfl rfl rfl) ?_
                              refine wo_nil ?_
                              refine wr_hp [(some (.rows g 8 [(rAirspace a)])), (some (.rows g1 8 [(rAirspace b)])), none, none, none, none, none, none, none, none, (some (.rows g10 2 [(rAirport a11)])), none] rfl ?_
                              refine wr_seq ?_
                              refine wr_region ?_
                              refine wo_val (.ptr (ix ids 1) g1 0 5) rfl (pv_fa (fa_ptr (c := 0) (off := 5) (i := 5) ti31 rfl ti27 rfl)) ?_
                              refine wo_val (.sl 2 (List.map rAirport b.Airports)) rfl (pv_load (ld_ptr hI rfl rfl rfl ti27 rfl)) ?_
                              refine wo_val (.int .i64 (j5 : Int)) rfl pv_move ?_
                              refine of_idx fun a12 hz5 hx6 => ?_
                              refine wo_val (.cp (rAirport a12) 0) rfl (pv_ixa (ixa_sl ti27 ti46 rfl hz5 hx6)) ?_
                              refine wo_val (.agg (rAirport a12)) rfl (pv_load (ld_cp ti46 rfl)) ?_
                              refine wo_alloc (j := 11) hI rfl rfl rfl rfl ti46 rfl fun g11 => ?_
                              refine wo_store (st_ptr hI rfl rfl rfl rfl ti46 rfl rfl rfl rfl rfl) ?_
                              refine wo_nil ?_
                              refine wr_hp [(some (.rows g 8 [(rAirspace a)])), (some (.rows g1 8 [(rAirspace b)])), none, none, none, none, none, none, none, none, (some (.rows g10 2 [(rAirport a11)])), (some (.rows g11 2 [(rAirport a12)]))] rfl ?_
                              refine wr_seq ?_
                              refine wr_seq ?_
                              refine wr_region ?_
                              refine wo_val (.ptr (ix ids 10) g10 0 0) rfl (pv_fa (fa_ptr (c := 0) (off := 0) (i := 0) ti46 rfl ti9 rfl)) ?_
                              refine wo_val (.str a11.Name) rfl (pv_load (ld_ptr hI rfl rfl rfl ti9 rfl)) ?_
                              refine wo_val (.ptr (ix ids 11) g11 0 0) rfl (pv_fa (fa_ptr (c := 0) (off := 0) (i := 0) ti46 rfl ti9 rfl)) ?_
                              refine wo_val (.str a12.Name) rfl (pv_load (ld_ptr hI rfl rfl rfl ti9 rfl)) ?_
                              refine wo_val (.bool (!(a11.Name == a12.Name))) rfl (pv_bin rfl rfl rfl) ?_
                              refine wo_val (.bool (!(a11.Name == a12.Name))) rfl pv_move ?_
                              refine wo_meet 8 [(2, (.ptr (ix ids 0) g 0 0)), (3, (.ptr (ix ids 1) g1 0 0)), (18, (.int .i64 (j5 : Int))), (19, (.ptr (ix ids 10) g10 0 0)), (20, (.ptr (ix ids 11) g11 0 0)), (367, (.bool ((!(a11.Name == a12.Name)) || ((a11.Modes.length : Int) != (a12.Modes.length : Int)))))] ?_ fun hJ24 => wo_cases (!(a11.Name == a12.Name)) (fun hb48 => ?_) (fun hb48 => ?_)
                              · refine wo_nil ?_
                                refine wf_iteb rfl (fun hc6 => ?_) (fun hc6 => ?_)
                                · refine wr_seq ?_
                                  refine wr_region ?_
                                  refine wo_val (.bool false) rfl pv_assign ?_
                                  refine wo_nil ?_
                                  refine wx_each ?_
                                  refine w_altr ?_
                                  exact wr_ret (a := false) (vs := [(.bool false)]) Try.func14 hI rfl (.same _)
                                · refine wr_skip ?_
                                  refine wr_seq ?_
                                  refine wr_region ?_
                                  refine wo_val (.int .i64 0) rfl pv_assign ?_
                                  refine wo_nil ?_
                                  refine wr_block ?_
                                  refine wr_is [(2, (.ptr (ix ids 0) g 0 0)), (3, (.ptr (ix ids 1) g1 0 0)), (18, (.int .i64 (j5 : Int))), (19, (.ptr (ix ids 10) g10 0 0)), (20, (.ptr (ix ids 11) g11 0 0)), (21, (.int .i64 0))] (.cons rfl (.cons rfl (.cons rfl (.cons rfl (.cons rfl (.cons rfl .nil)))))) ?_
                                  refine wf_each' (P := Try.prog) a11.Modes (fun j6 a13 => fun _ => ref08_Same_b6 a12 j6 a13) ((alt (fun _ => .ok (.inl ())) (fun r => .ok (.inr (r)))) : (Unit ⊕ Bool) → R (Unit ⊕ Bool))
                                    (fun j6 => fun _ => fun (fr : Nat → AV) (h : AHeap) => fr = frA [(2, (.ptr (ix ids 0) g 0 0)), (3, (.ptr (ix ids 1) g1 0 0)), (18, (.int .i64 (j5 : Int))), (19, (.ptr (ix ids 10) g10 0 0)), (20, (.ptr (ix ids 11) g11 0 0)), (21, (.int .i64 (j6 : Int)))] ∧ h = hp h0 ids [(some (.rows g 8 [(rAirspace a)])), (some (.rows g1 8 [(rAirspace b)])), none, none, none, none, none, none, none, none, (some (.rows g10 2 [(rAirport a11)])), (some (.rows g11 2 [(rAirport a12)]))]) () ?_ ?_ ?_
                                  · exact ⟨rfl, rfl⟩
                                  · rintro j6 a13 ha13 W hW6 _ fr h ⟨rfl, rfl⟩
                                    refine wr_mod (m' := ref08_Same_b6 a12 j6 a13) rfl (wr_mod (ref08_Same_b6.eq_1 _ _ _) ?_)
                                    refine wr_seq ?_
                                    refine wr_seq ?_
                                    refine wr_region ?_
                                    refine wo_val (.int .i64 (j6 : Int)) rfl pv_move ?_
                                    refine wo_val (.ptr (ix ids 10) g10 0 1) rfl (pv_fa (fa_ptr (c := 0) (off := 1) (i := 1) ti46 rfl ti44 rfl)) ?_
                                    refine wo_val (.sl 2 (List.map rMode a11.Modes)) rfl (pv_load (ld_ptr hI rfl rfl rfl ti44 rfl)) ?_
                                    refine wo_val (.int .i64 (a11.Modes.length : Int)) rfl (pv_len (len_sl ti44)) ?_
                                    refine wo_val (.bool (decide ((j6 : Int) < (a11.Modes.length : Int)))) rfl (pv_bin rfl rfl rfl) ?_
                                    refine wo_nil ?_
                                    refine wr_lim (t := 370) (L := a11.Modes) rfl fun hlim13 => ?_
                                    refine wr_condT rfl (Int.ofNat_lt.2 (lt_of_get ha13)) ?_
                                    refine wr_skip ?_
                                    refine wr_seq ?_
                                    refine wr_block ?_
                                    refine wr_seq ?_
                                    refine wr_draw hmix [[], [0], [], [0, 1, 2], [0, 1, 2, 3], [], [5], [], [5, 6, 7], [5, 6, 7, 8], [0, 1, 2, 3, 4, 5, 6, 7, 8, 9]] [(false, 0), (false, 1), (false, 2), (false, 3), (false, 4), (false, 5), (false, 6), (false, 7), (false, 8), (false, 9), (false, 10)] (by kernel_rfl) ?_
                                    refine wp_val (.ptr (ix ids 10) g10 0 1) rfl rfl (pv_fa (fa_ptr (c := 0) (off := 1) (i := 1) ti46 rfl ti44 rfl)) ?_
                                    refine wp_val (.sl 2 (List.map rMode a11.Modes)) rfl rfl (pv_load (ld_ptr hI rfl rfl rfl ti44 rfl)) ?_
                                    refine wp_val (.int .i64 (j6 : Int)) rfl rfl pv_move ?_
                                    refine wp_val (.cp (rMode a13) 0) rfl rfl (pv_ixa (ixa_nat ti44 ti66 rfl ha13)) ?_
                                    refine wp_val (.agg (rMode a13)) rfl rfl (pv_load (ld_cp ti66 rfl)) ?_
                                    refine wp_val (.ptr (ix ids 11) g11 0 1) rfl rfl (pv_fa (fa_ptr (c := 0) (off := 1) (i := 1) ti46 rfl ti44 rfl)) ?_
                                    refine wp_val (.sl 2 (List.map rMode a12.Modes)) rfl rfl (pv_load (ld_ptr hI rfl rfl rfl ti44 rfl)) ?_
                                    refine wp_val (.int .i64 (j6 : Int)) rfl rfl pv_move ?_
                                    refine op_idx fun a14 hz6 hx7 => ?_
                                    refine wp_val (.cp (rMode a14) 0) rfl rfl (pv_ixa (ixa_sl ti44 ti66 rfl hz6 hx7)) ?_
                                    refine wp_val (.agg (rMode a14)) rfl rfl (pv_load (ld_cp ti66 rfl)) ?_
                                    refine wp_val (.bool (!((a13.Name == a14.Name) && (a13.Places == a14.Places)))) rfl rfl (pv_bin (eqok66 rfl rfl) rfl neqs66) ?_
                                    refine wp_nil ?_
                                    refine wf_itebn rfl (fun hc7 => ?_) (fun hc7 => ?_)
                                    · refine wr_skip ?_
                                      refine wr_inBlock ?_
                                      refine wr_region ?_
                                      refine wo_val (.int .i64 (j6 : Int)) rfl pv_move ?_
                                      refine wo_val (.int .i64 (IntKind.wrap .i64 ((j6 : Int) + 1))) rfl (pv_bin rfl rfl rfl) ?_
                                      refine wo_val (.int .i64 (IntKind.wrap .i64 ((j6 : Int) + 1))) rfl pv_assign ?_
                                      refine wo_nil ?_
                                      refine wr_is [(2, (.ptr (ix ids 0) g 0 0)), (3, (.ptr (ix ids 1) g1 0 0)), (18, (.int .i64 (j5 : Int))), (19, (.ptr (ix ids 10) g10 0 0)), (20, (.ptr (ix ids 11) g11 0 0)), (21, (.int .i64 ((j6 + 1 : Nat) : Int)))] (.cons rfl (.cons rfl (.cons rfl (.cons rfl (.cons rfl (.cons (inc_ok (lt_of_get ha13) hlim13) .nil)))))) ?_
                                      refine wb_each ?_
                                      refine hW6 () _ _ ?_
                                      exact ⟨rfl, rfl⟩
                                    · refine wr_seq ?_
                                      refine wr_region ?_
                                      refine wo_val (.bool false) rfl pv_assign ?_
                                      refine wo_nil ?_
                                      refine wx_each ?_
                                      refine w_altr ?_
                                      refine wx_each ?_
                                      refine w_altr ?_
                                      exact wr_ret (a := false) (vs := [(.bool false)]) Try.func14 hI rfl (.same _)
                                  · rintro _ fr h ⟨rfl, rfl⟩
                                    refine wr_mod (alt_inl _ _ _) ?_
                                    refine wr_seq ?_
                                    refine wr_seq ?_
                                    refine wr_region ?_
                                    refine wo_val (.int .i64 (a11.Modes.length : Int)) rfl pv_move ?_
                                    refine wo_val (.ptr (ix ids 10) g10 0 1) rfl (pv_fa (fa_ptr (c := 0) (off := 1) (i := 1) ti46 rfl ti44 rfl)) ?_
                                    refine wo_val (.sl 2 (List.map rMode a11.Modes)) rfl (pv_load (ld_ptr hI rfl rfl rfl ti44 rfl)) ?_
                                    refine wo_val (.int .i64 (a11.Modes.length : Int)) rfl (pv_len (len_sl ti44)) ?_
                                    refine wo_val (.bool (decide ((a11.Modes.length : Int) < (a11.Modes.length : Int)))) rfl (pv_bin rfl rfl rfl) ?_
                                    refine wo_nil ?_
                                    refine wr_condF rfl (Int.lt_irrefl _) ?_
                                    refine wr_exit rfl ?_
                                    refine wr_inBlock ?_
                                    refine wr_region ?_
                                    refine wo_val (.int .i64 (j5 : Int)) rfl pv_move ?_
                                    refine wo_val (.int .i64 (IntKind.wrap .i64 ((j5 : Int) + 1))) rfl (pv_bin rfl rfl rfl) ?_
                                    refine wo_val (.int .i64 (IntKind.wrap .i64 ((j5 : Int) + 1))) rfl pv_assign ?_
                                    refine wo_nil ?_
                                    refine wr_drop [(some (.rows g 8 [(rAirspace a)])), (some (.rows g1 8 [(rAirspace b)])), none, none, none, none, none, none, none, none, none, none] hI rfl (.keep (.keep (.keep (.keep (.keep (.keep (.keep (.keep (.keep (.keep (.drop (.drop .nil)))))))))))) ?_
                                    refine wr_is [(2, (.ptr (ix ids 0) g 0 0)), (3, (.ptr (ix ids 1) g1 0 0)), (18, (.int .i64 ((j5 + 1 : Nat) : Int)))] (.cons rfl (.cons rfl (.cons (inc_ok (lt_of_get ha11) hlim11) .nil))) ?_
                                    refine wb_each ?_
                                    refine hW5 () _ _ ?_
                                    exact ⟨rfl, rfl⟩
                              · refine wo_not (tj := 359) (b := true) rfl (congrArg AV.bool hb48) rfl rfl ?_
                                refine wo_not (tj := 359) (b := true) rfl (congrArg AV.bool hb48) rfl rfl ?_
                                refine wo_not (tj := 359) (b := true) rfl (congrArg AV.bool hb48) rfl rfl ?_
                                refine wo_not (tj := 359) (b := true) rfl (congrArg AV.bool hb48) rfl rfl ?_
                                refine wo_not (tj := 359) (b := true) rfl (congrArg AV.bool hb48) rfl rfl ?_
                                refine wo_not (tj := 359) (b := true) rfl (congrArg AV.bool hb48) rfl rfl ?_
                                refine wo_not (tj := 359) (b := true) rfl (congrArg AV.bool hb48) rfl rfl ?_
                                refine wo_val (.bool true) rfl (pv_pick (t := true) (congrArg AV.bool hb48) rfl) ?_
                                exact wo_is [(2, (.ptr (ix ids 0) g 0 0)), (3, (.ptr (ix ids 1) g1 0 0)), (18, (.int .i64 (j5 : Int))), (19, (.ptr (ix ids 10) g10 0 0)), (20, (.ptr (ix ids 11) g11 0 0)), (367, (.bool ((!(a11.Name == a12.Name)) || ((a11.Modes.length : Int) != (a12.Modes.length : Int)))))] (.cons rfl (.cons rfl (.cons rfl (.cons rfl (.cons rfl (.cons (or_t hb48) .nil)))))) hJ24
                              · refine wo_valg (tj := 359) (.ptr (ix ids 10) g10 0 1) rfl (congrArg AV.bool hb48) rfl (pv_fa (fa_ptr (c := 0) (off := 1) (i := 1) ti46 rfl ti44 rfl)) ?_
                                refine wo_valg (tj := 359) (.sl 2 (List.map rMode a11.Modes)) rfl (congrArg AV.bool hb48) rfl (pv_load (ld_ptr hI rfl rfl rfl ti44 rfl)) ?_
                                refine wo_valg (tj := 359) (.int .i64 (a11.Modes.length : Int)) rfl (congrArg AV.bool hb48) rfl (pv_len (len_sl ti44)) ?_
                                refine wo_valg (tj := 359) (.ptr (ix ids 11) g11 0 1) rfl (congrArg AV.bool hb48) rfl (pv_fa (fa_ptr (c := 0) (off := 1) (i := 1) ti46 rfl ti44 rfl)) ?_
                                refine wo_valg (tj := 359) (.sl 2 (List.map rMode a12.Modes)) rfl (congrArg AV.bool hb48) rfl (pv_load (ld_ptr hI rfl rfl rfl ti44 rfl)) ?_
                                refine wo_valg (tj := 359) (.int .i64 (a12.Modes.length : Int)) rfl (congrArg AV.bool hb48) rfl (pv_len (len_sl ti44)) ?_
                                refine wo_valg (tj := 359) (.bool ((a11.Modes.length : Int) != (a12.Modes.length : Int))) rfl (congrArg AV.bool hb48) rfl (pv_bin rfl rfl rfl) ?_
                                refine wo_val (.bool ((a11.Modes.length : Int) != (a12.Modes.length : Int))) rfl (pv_pick (t := false) (congrArg AV.bool hb48) rfl) ?_
                                exact wo_is [(2, (.ptr (ix ids 0) g 0 0)), (3, (.ptr (ix ids 1) g1 0 0)), (18, (.int .i64 (j5 : Int))), (19, (.ptr (ix ids 10) g10 0 0)), (20, (.ptr (ix ids 11) g11 0 0)), (367, (.bool ((!(a11.Name == a12.Name)) || ((a11.Modes.length : Int) != (a12.Modes.length : Int)))))] (.cons rfl (.cons rfl (.cons rfl (.cons rfl (.cons rfl (.cons (or_f hb48) .nil)))))) hJ24
                            · rintro _ fr h ⟨rfl, rfl⟩
                              refine wr_mod (alt_inl _ _ _) ?_
                              refine wr_seq ?_
                              refine wr_seq ?_
                              refine wr_region ?_
                              refine wo_val (.int .i64 (a.Airports.length : Int)) rfl pv_move ?_
                              refine wo_val (.ptr (ix ids 0) g 0 5) rfl (pv_fa (fa_ptr (c := 0) (off := 5) (i := 5) ti31 rfl ti27 rfl)) ?_
                              refine wo_val (.sl 2 (List.map rAirport a.Airports)) rfl (pv_load (ld_ptr hI rfl rfl rfl ti27 rfl)) ?_
                              refine wo_val (.int .i64 (a.Airports.length : Int)) rfl (pv_len (len_sl ti27)) ?_
                              refine wo_val (.bool (decide ((a.Airports.length : Int) < (a.Airports.length : Int)))) rfl (pv_bin rfl rfl rfl) ?_
                              refine wo_nil ?_
                              refine wr_condF rfl (Int.lt_irrefl _) ?_
                              refine wr_exit rfl ?_
                              refine wr_seq ?_
                              refine wr_seq ?_
                              refine wr_region ?_
                              refine wo_val (.int .i64 0) rfl pv_assign ?_
                              refine wo_nil ?_
                              refine wr_block ?_
                              refine wr_is [(2, (.ptr (ix ids 0) g 0 0)), (3, (.ptr (ix ids 1) g1 0 0)), (22, (.int .i64 0))] (.cons rfl (.cons rfl (.cons rfl .nil))) ?_
                              refine wf_each' (P := Try.prog) a.Classes (fun j7 a15 => fun _ => ref08_Same_b8 b j7 a15) ((alt (fun _ => (each (fun j8 a17 => fun _ => ref08_Same_b9 b j8 a17) 0 a.Rules ()).bind (alt (fun _ => .ok true) (fun r => .ok r))) (fun r => .ok r)) : (Unit ⊕ Bool) → R Bool)
                                (fun j7 => fun _ => fun (fr : Nat → AV) (h : AHeap) => fr = frA [(2, (.ptr (ix ids 0) g 0 0)), (3, (.ptr (ix ids 1) g1 0 0)), (22, (.int .i64 (j7 : Int)))] ∧ h = hp h0 ids [(some (.rows g 8 [(rAirspace a)])), (some (.rows g1 8 [(rAirspace b)])), none, none, none, none, none, none, none, none, none, none]) () ?_ ?_ ?_
                              · exact ⟨rfl, rfl⟩
                              · rintro j7 a15 ha15 W hW7 _ fr h ⟨rfl, rfl⟩
                                refine wr_mod (m' := ref08_Same_b8 b j7 a15) rfl (wr_mod (ref08_Same_b8.eq_1 _ _ _) ?_)
                                refine wr_seq ?_
                                refine wr_seq ?_
                                refine wr_region ?_
                                refine wo_val (.int .i64 (j7 : Int)) rfl pv_move ?_
                                refine wo_val (.ptr (ix ids 0) g 0 6) rfl (pv_fa (fa_ptr (c := 0) (off := 6) (i := 6) ti31 rfl ti28 rfl)) ?_
                                refine wo_val (.sl 4 (List.map rClass a.Classes)) rfl (pv_load (ld_ptr hI rfl rfl rfl ti28 rfl)) ?_
                                refine wo_val (.int .i64 (a.Classes.length : Int)) rfl (pv_len (len_sl ti28)) ?_
                                refine wo_val (.bool (decide ((j7 : Int) < (a.Classes.length : Int)))) rfl (pv_bin rfl rfl rfl) ?_
                                refine wo_nil ?_
                                refine wr_lim (t := 388) (L := a.Classes) rfl fun hlim15 => ?_
                                refine wr_condT rfl (Int.ofNat_lt.2 (lt_of_get ha15)) ?_
                                refine wr_skip ?_
                                refine wr_seq ?_
                                refine wr_block ?_
                                refine wr_seq ?_
                                refine wr_draw hmix [[], [0], [], [0, 1, 2], [0, 1, 2, 3], [], [5], [], [5, 6, 7], [5, 6, 7, 8], [0, 1, 2, 3, 4, 5, 6, 7, 8, 9]] [(false, 0), (false, 1), (false, 2), (false, 3), (false, 4), (false, 5), (false, 6), (false, 7), (false, 8), (false, 9), (false, 10)] (by kernel_rfl) ?_
                                refine wp_val (.ptr (ix ids 0) g 0 6) rfl rfl (pv_fa (fa_ptr (c := 0) (off := 6) (i := 6) ti31 rfl ti28 rfl)) ?_
                                refine wp_val (.sl 4 (List.map rClass a.Classes)) rfl rfl (pv_load (ld_ptr hI rfl rfl rfl ti28 rfl)) ?_
                                refine wp_val (.int .i64 (j7 : Int)) rfl rfl pv_move ?_
                                refine wp_val (.cp (rClass a15) 0) rfl rfl (pv_ixa (ixa_nat ti28 ti43 rfl ha15)) ?_
                                refine wp_val (.agg (rClass a15)) rfl rfl (pv_load (ld_cp ti43 rfl)) ?_
                                refine wp_val (.ptr (ix ids 1) g1 0 6) rfl rfl (pv_fa (fa_ptr (c := 0) (off := 6) (i := 6) ti31 rfl ti28 rfl)) ?_
                                refine wp_val (.sl 4 (List.map rClass b.Classes)) rfl rfl (pv_load (ld_ptr hI rfl rfl rfl ti28 rfl)) ?_
                                refine wp_val (.int .i64 (j7 : Int)) rfl rfl pv_move ?_
                                refine op_idx fun a16 hz7 hx8 => ?_
                                refine wp_val (.cp (rClass a16) 0) rfl rfl (pv_ixa (ixa_sl ti28 ti43 rfl hz7 hx8)) ?_
                                refine wp_val (.agg (rClass a16)) rfl rfl (pv_load (ld_cp ti43 rfl)) ?_
                                refine wp_val (.bool (!((a15.Name == a16.Name) && ((a15.Slow == a16.Slow) && ((a15.Fast == a16.Fast) && (a15.Places == a16.Places)))))) rfl rfl (pv_bin (eqok43 rfl rfl) rfl neqs43) ?_
                                refine wp_nil ?_
                                refine wf_itebn rfl (fun hc8 => ?_) (fun hc8 => ?_)
                                · refine wr_skip ?_
                                  refine wr_inBlock ?_
                                  refine wr_region ?_
                                  refine wo_val (.int .i64 (j7 : Int)) rfl pv_move ?_
                                  refine wo_val (.int .i64 (IntKind.wrap .i64 ((j7 : Int) + 1))) rfl (pv_bin rfl rfl rfl) ?_
                                  refine wo_val (.int .i64 (IntKind.wrap .i64 ((j7 : Int) + 1))) rfl pv_assign ?_
                                  refine wo_nil ?_
                                  refine wr_is [(2, (.ptr (ix ids 0) g 0 0)), (3, (.ptr (ix ids 1) g1 0 0)), (22, (.int .i64 ((j7 + 1 : Nat) : Int)))] (.cons rfl (.cons rfl (.cons (inc_ok (lt_of_get ha15) hlim15) .nil))) ?_
                                  refine wb_each ?_
                                  refine hW7 () _ _ ?_
                                  exact ⟨rfl, rfl⟩
                                · refine wr_seq ?_
                                  refine wr_region ?_
                                  refine wo_val (.bool false) rfl pv_assign ?_
                                  refine wo_nil ?_
                                  refine wx_each ?_
                                  refine w_altr ?_
                                  exact wr_ret (a := false) (vs := [(.bool false)]) Try.func14 hI rfl (.same _)
                              · rintro _ fr h ⟨rfl, rfl⟩
                                refine wr_mod (alt_inl _ _ _) ?_
                                refine wr_seq ?_
                                refine wr_seq ?_
                                refine wr_region ?_
                                refine wo_val (.int .i64 (a.Classes.length : Int)) rfl pv_move ?_
                                refine wo_val (.ptr (ix ids 0) g 0 6) rfl (pv_fa (fa_ptr (c := 0) (off := 6) (i := 6) ti31 rfl ti28 rfl)) ?_
                                refine wo_val (.sl 4 (List.map rClass a.Classes)) rfl (pv_load (ld_ptr hI rfl rfl rfl ti28 rfl)) ?_
                                refine wo_val (.int .i64 (a.Classes.length : Int)) rfl (pv_len (len_sl ti28)) ?_
                                refine wo_val (.bool (decide ((a.Classes.length : Int) < (a.Classes.length : Int)))) rfl (pv_bin rfl rfl rfl) ?_
                                refine wo_nil ?_
                                refine wr_condF rfl (Int.lt_irrefl _) ?_
                                refine wr_exit rfl ?_
                                refine wr_seq ?_
                                refine wr_seq ?_
                                refine wr_region ?_
                                refine wo_val (.int .i64 0) rfl pv_assign ?_
                                refine wo_nil ?_
                                refine wr_block ?_
                                refine wr_is [(2, (.ptr (ix ids 0) g 0 0)), (3, (.ptr (ix ids 1) g1 0 0)), (23, (.int .i64 0))] (.cons rfl (.cons rfl (.cons rfl .nil))) ?_
                                refine wf_each' (P := Try.prog) a.Rules (fun j8 a17 => fun _ => ref08_Same_b9 b j8 a17) ((alt (fun _ => .ok true) (fun r => .ok r)) : (Unit ⊕ Bool) → R Bool)
                                  (fun j8 => fun _ => fun (fr : Nat → AV) (h : AHeap) => fr = frA [(2, (.ptr (ix ids 0) g 0 0)), (3, (.ptr (ix ids 1) g1 0 0)), (23, (.int .i64 (j8 : Int)))] ∧ h = hp h0 ids [(some (.rows g 8 [(rAirspace a)])), (some (.rows g1 8 [(rAirspace b)])), none, none, none, none, none, none, none, none, none, none]) () ?_ ?_ ?_
                                · exact ⟨rfl, rfl⟩
                                · rintro j8 a17 ha17 W hW8 _ fr h ⟨rfl, rfl⟩
                                  refine wr_mod (m' := ref08_Same_b9 b j8 a17) rfl (wr_mod (ref08_Same_b9.eq_1 _ _ _) ?_)
                                  refine wr_seq ?_
                                  refine wr_seq ?_
                                  refine wr_region ?_
                                  refine wo_val (.int .i64 (j8 : Int)) rfl pv_move ?_
                                  refine wo_val (.ptr (ix ids 0) g 0 7) rfl (pv_fa (fa_ptr (c := 0) (off := 7) (i := 7) ti31 rfl ti29 rfl)) ?_
                                  refine wo_val (.sl 8 (List.map rRule a.Rules)) rfl (pv_load (ld_ptr hI rfl rfl rfl ti29 rfl)) ?_
                                  refine wo_val (.int .i64 (a.Rules.length : Int)) rfl (pv_len (len_sl ti29)) ?_
                                  refine wo_val (.bool (decide ((j8 : Int) < (a.Rules.length : Int)))) rfl (pv_bin rfl rfl rfl) ?_
                                  refine wo_nil ?_
                                  refine wr_lim (t := 406) (L := a.Rules) rfl fun hlim17 => ?_
                                  refine wr_condT rfl (Int.ofNat_lt.2 (lt_of_get ha17)) ?_
                                  refine wr_skip ?_
                                  refine wr_seq ?_
                                  refine wr_block ?_
                                  refine wr_seq ?_
                                  refine wr_draw hmix [[], [0], [], [0, 1, 2], [0, 1, 2, 3], [], [5], [], [5, 6, 7], [5, 6, 7, 8], [0, 1, 2, 3, 4, 5, 6, 7, 8, 9]] [(false, 0), (false, 1), (false, 2), (false, 3), (false, 4), (false, 5), (false, 6), (false, 7), (false, 8), (false, 9), (false, 10)] (by kernel_rfl) ?_
                                  refine wp_val (.ptr (ix ids 0) g 0 7) rfl rfl (pv_fa (fa_ptr (c := 0) (off := 7) (i := 7) ti31 rfl ti29 rfl)) ?_
                                  refine wp_val (.sl 8 (List.map rRule a.Rules)) rfl rfl (pv_load (ld_ptr hI rfl rfl rfl ti29 rfl)) ?_
                                  refine wp_val (.int .i64 (j8 : Int)) rfl rfl pv_move ?_
                                  refine wp_val (.cp (rRule a17) 0) rfl rfl (pv_ixa (ixa_nat ti29 ti63 rfl ha17)) ?_
                                  refine wp_val (.agg (rRule a17)) rfl rfl (pv_load (ld_cp ti63 rfl)) ?_
                                  refine wp_val (.ptr (ix ids 1) g1 0 7) rfl rfl (pv_fa (fa_ptr (c := 0) (off := 7) (i := 7) ti31 rfl ti29 rfl)) ?_
                                  refine wp_val (.sl 8 (List.map rRule b.Rules)) rfl rfl (pv_load (ld_ptr hI rfl rfl rfl ti29 rfl)) ?_
                                  refine wp_val (.int .i64 (j8 : Int)) rfl rfl pv_move ?_
                                  refine op_idx fun a18 hz8 hx9 => ?_
                                  refine wp_val (.cp (rRule a18) 0) rfl rfl (pv_ixa (ixa_sl ti29 ti63 rfl hz8 hx9)) ?_
                                  refine wp_val (.agg (rRule a18)) rfl rfl (pv_load (ld_cp ti63 rfl)) ?_
                                  refine wp_val (.bool (!((a17.Kind == a18.Kind) && ((a17.C == a18.C) && ((a17.A == a18.A) && ((a17.Class == a18.Class) && ((a17.Airport == a18.Airport) && ((a17.N == a18.N) && ((a17.Hours.From == a18.Hours.From) && (a17.Hours.To == a18.Hours.To)))))))))) rfl rfl (pv_bin (eqok63 rfl rfl) rfl neqs63) ?_
                                  refine wp_nil ?_
                                  refine wf_itebn rfl (fun hc9 => ?_) (fun hc9 => ?_)
                                  · refine wr_skip ?_
                                    refine wr_inBlock ?_
                                    refine wr_region ?_
                                    refine wo_val (.int .i64 (j8 : Int)) rfl pv_move ?_
                                    refine wo_val (.int .i64 (IntKind.wrap .i64 ((j8 : Int) + 1))) rfl (pv_bin rfl rfl rfl) ?_
                                    refine wo_val (.int .i64 (IntKind.wrap .i64 ((j8 : Int) + 1))) rfl pv_assign ?_
                                    refine wo_nil ?_
                                    refine wr_is [(2, (.ptr (ix ids 0) g 0 0)), (3, (.ptr (ix ids 1) g1 0 0)), (23, (.int .i64 ((j8 + 1 : Nat) : Int)))] (.cons rfl (.cons rfl (.cons (inc_ok (lt_of_get ha17) hlim17) .nil))) ?_
                                    refine wb_each ?_
                                    refine hW8 () _ _ ?_
                                    exact ⟨rfl, rfl⟩
                                  · refine wr_seq ?_
                                    refine wr_region ?_
                                    refine wo_val (.bool false) rfl pv_assign ?_
                                    refine wo_nil ?_
                                    refine wx_each ?_
                                    refine w_altr ?_
                                    exact wr_ret (a := false) (vs := [(.bool false)]) Try.func14 hI rfl (.same _)
                                · rintro _ fr h ⟨rfl, rfl⟩
                                  refine wr_mod (alt_inl _ _ _) ?_
                                  refine wr_seq ?_
                                  refine wr_seq ?_
                                  refine wr_region ?_
                                  refine wo_val (.int .i64 (a.Rules.length : Int)) rfl pv_move ?_
                                  refine wo_val (.ptr (ix ids 0) g 0 7) rfl (pv_fa (fa_ptr (c := 0) (off := 7) (i := 7) ti31 rfl ti29 rfl)) ?_
                                  refine wo_val (.sl 8 (List.map rRule a.Rules)) rfl (pv_load (ld_ptr hI rfl rfl rfl ti29 rfl)) ?_
                                  refine wo_val (.int .i64 (a.Rules.length : Int)) rfl (pv_len (len_sl ti29)) ?_
                                  refine wo_val (.bool (decide ((a.Rules.length : Int) < (a.Rules.length : Int)))) rfl (pv_bin rfl rfl rfl) ?_
                                  refine wo_nil ?_
                                  refine wr_condF rfl (Int.lt_irrefl _) ?_
                                  refine wr_exit rfl ?_
                                  refine wr_seq ?_
                                  refine wr_region ?_
                                  refine wo_val (.bool true) rfl pv_assign ?_
                                  refine wo_nil ?_
                                  exact wr_ret (a := true) (vs := [(.bool true)]) Try.func14 hI rfl (.same _)
              · refine wo_not (tj := 85) (b := true) rfl (congrArg AV.bool hb13) rfl rfl ?_
                refine wo_not (tj := 85) (b := true) rfl (congrArg AV.bool hb13) rfl rfl ?_
                refine wo_not (tj := 85) (b := true) rfl (congrArg AV.bool hb13) rfl rfl ?_
                refine wo_not (tj := 85) (b := true) rfl (congrArg AV.bool hb13) rfl rfl ?_
                refine wo_not (tj := 85) (b := true) rfl (congrArg AV.bool hb13) rfl rfl ?_
                refine wo_not (tj := 85) (b := true) rfl (congrArg AV.bool hb13) rfl rfl ?_
                refine wo_not (tj := 85) (b := true) rfl (congrArg AV.bool hb13) rfl rfl ?_
                refine wo_val (.bool true) rfl (pv_pick (t := true) (congrArg AV.bool hb13) rfl) ?_
                exact wo_is [(2, (.ptr (ix ids 0) g 0 0)), (3, (.ptr (ix ids 1) g1 0 0)), (93, (.bool (((((((((a.Volumes.length : Int) != (b.Volumes.length : Int)) || ((a.Sectors.length : Int) != (b.Sectors.length : Int))) || ((a.Configs.length : Int) != (b.Configs.length : Int))) || ((a.Segments.length : Int) != (b.Segments.length : Int))) || ((a.Routes.length : Int) != (b.Routes.length : Int))) || ((a.Airports.length : Int) != (b.Airports.length : Int))) || ((a.Classes.length : Int) != (b.Classes.length : Int))) || ((a.Rules.length : Int) != (b.Rules.length : Int)))))] (.cons rfl (.cons rfl (.cons (or_t hb13) .nil))) hJ6
              · refine wo_valg (tj := 85) (.ptr (ix ids 0) g 0 7) rfl (congrArg AV.bool hb13) rfl (pv_fa (fa_ptr (c := 0) (off := 7) (i := 7) ti31 rfl ti29 rfl)) ?_
                refine wo_valg (tj := 85) (.sl 8 (List.map rRule a.Rules)) rfl (congrArg AV.bool hb13) rfl (pv_load (ld_ptr hI rfl rfl rfl ti29 rfl)) ?_
                refine wo_valg (tj := 85) (.int .i64 (a.Rules.length : Int)) rfl (congrArg AV.bool hb13) rfl (pv_len (len_sl ti29)) ?_
                refine wo_valg (tj := 85) (.ptr (ix ids 1) g1 0 7) rfl (congrArg AV.bool hb13) rfl (pv_fa (fa_ptr (c := 0) (off := 7) (i := 7) ti31 rfl ti29 rfl)) ?_
                refine wo_valg (tj := 85) (.sl 8 (List.map rRule b.Rules)) rfl (congrArg AV.bool hb13) rfl (pv_load (ld_ptr hI rfl rfl rfl ti29 rfl)) ?_
                refine wo_valg (tj := 85) (.int .i64 (b.Rules.length : Int)) rfl (congrArg AV.bool hb13) rfl (pv_len (len_sl ti29)) ?_
                refine wo_valg (tj := 85) (.bool ((a.Rules.length : Int) != (b.Rules.length : Int))) rfl (congrArg AV.bool hb13) rfl (pv_bin rfl rfl rfl) ?_
                refine wo_val (.bool ((a.Rules.length : Int) != (b.Rules.length : Int))) rfl (pv_pick (t := false) (congrArg AV.bool hb13) rfl) ?_
                exact wo_is [(2, (.ptr (ix ids 0) g 0 0)), (3, (.ptr (ix ids 1) g1 0 0)), (93, (.bool (((((((((a.Volumes.length : Int) != (b.Volumes.length : Int)) || ((a.Sectors.length : Int) != (b.Sectors.length : Int))) || ((a.Configs.length : Int) != (b.Configs.length : Int))) || ((a.Segments.length : Int) != (b.Segments.length : Int))) || ((a.Routes.length : Int) != (b.Routes.length : Int))) || ((a.Airports.length : Int) != (b.Airports.length : Int))) || ((a.Classes.length : Int) != (b.Classes.length : Int))) || ((a.Rules.length : Int) != (b.Rules.length : Int)))))] (.cons rfl (.cons rfl (.cons (or_f hb13) .nil))) hJ6
            · refine wo_not (tj := 76) (b := true) rfl (congrArg AV.bool hb11) rfl rfl ?_
              refine wo_not (tj := 76) (b := true) rfl (congrArg AV.bool hb11) rfl rfl ?_
              refine wo_not (tj := 76) (b := true) rfl (congrArg AV.bool hb11) rfl rfl ?_
              refine wo_not (tj := 76) (b := true) rfl (congrArg AV.bool hb11) rfl rfl ?_
              refine wo_not (tj := 76) (b := true) rfl (congrArg AV.bool hb11) rfl rfl ?_
              refine wo_not (tj := 76) (b := true) rfl (congrArg AV.bool hb11) rfl rfl ?_
              refine wo_not (tj := 76) (b := true) rfl (congrArg AV.bool hb11) rfl rfl ?_
              refine wo_val (.bool true) rfl (pv_pick (t := true) (congrArg AV.bool hb11) rfl) ?_
              exact wo_is [(2, (.ptr (ix ids 0) g 0 0)), (3, (.ptr (ix ids 1) g1 0 0)), (84, (.bool ((((((((a.Volumes.length : Int) != (b.Volumes.length : Int)) || ((a.Sectors.length : Int) != (b.Sectors.length : Int))) || ((a.Configs.length : Int) != (b.Configs.length : Int))) || ((a.Segments.length : Int) != (b.Segments.length : Int))) || ((a.Routes.length : Int) != (b.Routes.length : Int))) || ((a.Airports.length : Int) != (b.Airports.length : Int))) || ((a.Classes.length : Int) != (b.Classes.length : Int)))))] (.cons rfl (.cons rfl (.cons (or_t hb11) .nil))) hJ5
            · refine wo_valg (tj := 76) (.ptr (ix ids 0) g 0 6) rfl (congrArg AV.bool hb11) rfl (pv_fa (fa_ptr (c := 0) (off := 6) (i := 6) ti31 rfl ti28 rfl)) ?_
              refine wo_valg (tj := 76) (.sl 4 (List.map rClass a.Classes)) rfl (congrArg AV.bool hb11) rfl (pv_load (ld_ptr hI rfl rfl rfl ti28 rfl)) ?_
              refine wo_valg (tj := 76) (.int .i64 (a.Classes.length : Int)) rfl (congrArg AV.bool hb11) rfl (pv_len (len_sl ti28)) ?_
              refine wo_valg (tj := 76) (.ptr (ix ids 1) g1 0 6) rfl (congrArg AV.bool hb11) rfl (pv_fa (fa_ptr (c := 0) (off := 6) (i := 6) ti31 rfl ti28 rfl)) ?_
              refine wo_valg (tj := 76) (.sl 4 (List.map rClass b.Classes)) rfl (congrArg AV.bool hb11) rfl (pv_load (ld_ptr hI rfl rfl rfl ti28 rfl)) ?_
              refine wo_valg (tj := 76) (.int .i64 (b.Classes.length : Int)) rfl (congrArg AV.bool hb11) rfl (pv_len (len_sl ti28)) ?_
              refine wo_valg (tj := 76) (.bool ((a.Classes.length : Int) != (b.Classes.length : Int))) rfl (congrArg AV.bool hb11) rfl (pv_bin rfl rfl rfl) ?_
              refine wo_val (.bool ((a.Classes.length : Int) != (b.Classes.length : Int))) rfl (pv_pick (t := false) (congrArg AV.bool hb11) rfl) ?_
              exact wo_is [(2, (.ptr (ix ids 0) g 0 0)), (3, (.ptr (ix ids 1) g1 0 0)), (84, (.bool ((((((((a.Volumes.length : Int) != (b.Volumes.length : Int)) || ((a.Sectors.length : Int) != (b.Sectors.length : Int))) || ((a.Configs.length : Int) != (b.Configs.length : Int))) || ((a.Segments.length : Int) != (b.Segments.length : Int))) || ((a.Routes.length : Int) != (b.Routes.length : Int))) || ((a.Airports.length : Int) != (b.Airports.length : Int))) || ((a.Classes.length : Int) != (b.Classes.length : Int)))))] (.cons rfl (.cons rfl (.cons (or_f hb11) .nil))) hJ5
          · refine wo_not (tj := 67) (b := true) rfl (congrArg AV.bool hb9) rfl rfl ?_
            refine wo_not (tj := 67) (b := true) rfl (congrArg AV.bool hb9) rfl rfl ?_
            refine wo_not (tj := 67) (b := true) rfl (congrArg AV.bool hb9) rfl rfl ?_
            refine wo_not (tj := 67) (b := true) rfl (congrArg AV.bool hb9) rfl rfl ?_
            refine wo_not (tj := 67) (b := true) rfl (congrArg AV.bool hb9) rfl rfl ?_
            refine wo_not (tj := 67) (b := true) rfl (congrArg AV.bool hb9) rfl rfl ?_
            refine wo_not (tj := 67) (b := true) rfl (congrArg AV.bool hb9) rfl rfl ?_
            refine wo_val (.bool true) rfl (pv_pick (t := true) (congrArg AV.bool hb9) rfl) ?_
            exact wo_is [(2, (.ptr (ix ids 0) g 0 0)), (3, (.ptr (ix ids 1) g1 0 0)), (75, (.bool (((((((a.Volumes.length : Int) != (b.Volumes.length : Int)) || ((a.Sectors.length : Int) != (b.Sectors.length : Int))) || ((a.Configs.length : Int) != (b.Configs.length : Int))) || ((a.Segments.length : Int) != (b.Segments.length : Int))) || ((a.Routes.length : Int) != (b.Routes.length : Int))) || ((a.Airports.length : Int) != (b.Airports.length : Int)))))] (.cons rfl (.cons rfl (.cons (or_t hb9) .nil))) hJ4
          · refine wo_valg (tj := 67) (.ptr (ix ids 0) g 0 5) rfl (congrArg AV.bool hb9) rfl (pv_fa (fa_ptr (c := 0) (off := 5) (i := 5) ti31 rfl ti27 rfl)) ?_
            refine wo_valg (tj := 67) (.sl 2 (List.map rAirport a.Airports)) rfl (congrArg AV.bool hb9) rfl (pv_load (ld_ptr hI rfl rfl rfl ti27 rfl)) ?_
            refine wo_valg (tj := 67) (.int .i64 (a.Airports.length : Int)) rfl (congrArg AV.bool hb9) rfl (pv_len (len_sl ti27)) ?_
            refine wo_valg (tj := 67) (.ptr (ix ids 1) g1 0 5) rfl (congrArg AV.bool hb9) rfl (pv_fa (fa_ptr (c := 0) (off := 5) (i := 5) ti31 rfl ti27 rfl)) ?_
            refine wo_valg (tj := 67) (.sl 2 (List.map rAirport b.Airports)) rfl (congrArg AV.bool hb9) rfl (pv_load (ld_ptr hI rfl rfl rfl ti27 rfl)) ?_
            refine wo_valg (tj := 67) (.int .i64 (b.Airports.length : Int)) rfl (congrArg AV.bool hb9) rfl (pv_len (len_sl ti27)) ?_
            refine wo_valg (tj := 67) (.bool ((a.Airports.length : Int) != (b.Airports.length : Int))) rfl (congrArg AV.bool hb9) rfl (pv_bin rfl rfl rfl) ?_
            refine wo_val (.bool ((a.Airports.length : Int) != (b.Airports.length : Int))) rfl (pv_pick (t := false) (congrArg AV.bool hb9) rfl) ?_
            exact wo_is [(2, (.ptr (ix ids 0) g 0 0)), (3, (.ptr (ix ids 1) g1 0 0)), (75, (.bool (((((((a.Volumes.length : Int) != (b.Volumes.length : Int)) || ((a.Sectors.length : Int) != (b.Sectors.length : Int))) || ((a.Configs.length : Int) != (b.Configs.length : Int))) || ((a.Segments.length : Int) != (b.Segments.length : Int))) || ((a.Routes.length : Int) != (b.Routes.length : Int))) || ((a.Airports.length : Int) != (b.Airports.length : Int)))))] (.cons rfl (.cons rfl (.cons (or_f hb9) .nil))) hJ4
        · refine wo_not (tj := 58) (b := true) rfl (congrArg AV.bool hb7) rfl rfl ?_
          refine wo_not (tj := 58) (b := true) rfl (congrArg AV.bool hb7) rfl rfl ?_
          refine wo_not (tj := 58) (b := true) rfl (congrArg AV.bool hb7) rfl rfl ?_
          refine wo_not (tj := 58) (b := true) rfl (congrArg AV.bool hb7) rfl rfl ?_
          refine wo_not (tj := 58) (b := true) rfl (congrArg AV.bool hb7) rfl rfl ?_
          refine wo_not (tj := 58) (b := true) rfl (congrArg AV.bool hb7) rfl rfl ?_
          refine wo_not (tj := 58) (b := true) rfl (congrArg AV.bool hb7) rfl rfl ?_
          refine wo_val (.bool true) rfl (pv_pick (t := true) (congrArg AV.bool hb7) rfl) ?_
          exact wo_is [(2, (.ptr (ix ids 0) g 0 0)), (3, (.ptr (ix ids 1) g1 0 0)), (66, (.bool ((((((a.Volumes.length : Int) != (b.Volumes.length : Int)) || ((a.Sectors.length : Int) != (b.Sectors.length : Int))) || ((a.Configs.length : Int) != (b.Configs.length : Int))) || ((a.Segments.length : Int) != (b.Segments.length : Int))) || ((a.Routes.length : Int) != (b.Routes.length : Int)))))] (.cons rfl (.cons rfl (.cons (or_t hb7) .nil))) hJ3
        · refine wo_valg (tj := 58) (.ptr (ix ids 0) g 0 4) rfl (congrArg AV.bool hb7) rfl (pv_fa (fa_ptr (c := 0) (off := 4) (i := 4) ti31 rfl ti26 rfl)) ?_
          refine wo_valg (tj := 58) (.sl 7 (List.map rRoute a.Routes)) rfl (congrArg AV.bool hb7) rfl (pv_load (ld_ptr hI rfl rfl rfl ti26 rfl)) ?_
          refine wo_valg (tj := 58) (.int .i64 (a.Routes.length : Int)) rfl (congrArg AV.bool hb7) rfl (pv_len (len_sl ti26)) ?_
          refine wo_valg (tj := 58) (.ptr (ix ids 1) g1 0 4) rfl (congrArg AV.bool hb7) rfl (pv_fa (fa_ptr (c := 0) (off := 4) (i := 4) ti31 rfl ti26 rfl)) ?_
          refine wo_valg (tj := 58) (.sl 7 (List.map rRoute b.Routes)) rfl (congrArg AV.bool hb7) rfl (pv_load (ld_ptr hI rfl rfl rfl ti26 rfl)) ?_
          refine wo_valg (tj := 58) (.int .i64 (b.Routes.length : Int)) rfl (congrArg AV.bool hb7) rfl (pv_len (len_sl ti26)) ?_
          refine wo_valg (tj := 58) (.bool ((a.Routes.length : Int) != (b.Routes.length : Int))) rfl (congrArg AV.bool hb7) rfl (pv_bin rfl rfl rfl) ?_
          refine wo_val (.bool ((a.Routes.length : Int) != (b.Routes.length : Int))) rfl (pv_pick (t := false) (congrArg AV.bool hb7) rfl) ?_
          exact wo_is [(2, (.ptr (ix ids 0) g 0 0)), (3, (.ptr (ix ids 1) g1 0 0)), (66, (.bool ((((((a.Volumes.length : Int) != (b.Volumes.length : Int)) || ((a.Sectors.length : Int) != (b.Sectors.length : Int))) || ((a.Configs.length : Int) != (b.Configs.length : Int))) || ((a.Segments.length : Int) != (b.Segments.length : Int))) || ((a.Routes.length : Int) != (b.Routes.length : Int)))))] (.cons rfl (.cons rfl (.cons (or_f hb7) .nil))) hJ3
      · refine wo_not (tj := 49) (b := true) rfl (congrArg AV.bool hb5) rfl rfl ?_
        refine wo_not (tj := 49) (b := true) rfl (congrArg AV.bool hb5) rfl rfl ?_
        refine wo_not (tj := 49) (b := true) rfl (congrArg AV.bool hb5) rfl rfl ?_
        refine wo_not (tj := 49) (b := true) rfl (congrArg AV.bool hb5) rfl rfl ?_
        refine wo_not (tj := 49) (b := true) rfl (congrArg AV.bool hb5) rfl rfl ?_
        refine wo_not (tj := 49) (b := true) rfl (congrArg AV.bool hb5) rfl rfl ?_
        refine wo_not (tj := 49) (b := true) rfl (congrArg AV.bool hb5) rfl rfl ?_
        refine wo_val (.bool true) rfl (pv_pick (t := true) (congrArg AV.bool hb5) rfl) ?_
        exact wo_is [(2, (.ptr (ix ids 0) g 0 0)), (3, (.ptr (ix ids 1) g1 0 0)), (57, (.bool (((((a.Volumes.length : Int) != (b.Volumes.length : Int)) || ((a.Sectors.length : Int) != (b.Sectors.length : Int))) || ((a.Configs.length : Int) != (b.Configs.length : Int))) || ((a.Segments.length : Int) != (b.Segments.length : Int)))))] (.cons rfl (.cons rfl (.cons (or_t hb5) .nil))) hJ2
      · refine wo_valg (tj := 49) (.ptr (ix ids 0) g 0 3) rfl (congrArg AV.bool hb5) rfl (pv_fa (fa_ptr (c := 0) (off := 3) (i := 3) ti31 rfl ti25 rfl)) ?_
        refine wo_valg (tj := 49) (.sl 5 (List.map rSegment a.Segments)) rfl (congrArg AV.bool hb5) rfl (pv_load (ld_ptr hI rfl rfl rfl ti25 rfl)) ?_
        refine wo_valg (tj := 49) (.int .i64 (a.Segments.length : Int)) rfl (congrArg AV.bool hb5) rfl (pv_len (len_sl ti25)) ?_
        refine wo_valg (tj := 49) (.ptr (ix ids 1) g1 0 3) rfl (congrArg AV.bool hb5) rfl (pv_fa (fa_ptr (c := 0) (off := 3) (i := 3) ti31 rfl ti25 rfl)) ?_
        refine wo_valg (tj := 49) (.sl 5 (List.map rSegment b.Segments)) rfl (congrArg AV.bool hb5) rfl (pv_load (ld_ptr hI rfl rfl rfl ti25 rfl)) ?_
        refine wo_valg (tj := 49) (.int .i64 (b.Segments.length : Int)) rfl (congrArg AV.bool hb5) rfl (pv_len (len_sl ti25)) ?_
        refine wo_valg (tj := 49) (.bool ((a.Segments.length : Int) != (b.Segments.length : Int))) rfl (congrArg AV.bool hb5) rfl (pv_bin rfl rfl rfl) ?_
        refine wo_val (.bool ((a.Segments.length : Int) != (b.Segments.length : Int))) rfl (pv_pick (t := false) (congrArg AV.bool hb5) rfl) ?_
        exact wo_is [(2, (.ptr (ix ids 0) g 0 0)), (3, (.ptr (ix ids 1) g1 0 0)), (57, (.bool (((((a.Volumes.length : Int) != (b.Volumes.length : Int)) || ((a.Sectors.length : Int) != (b.Sectors.length : Int))) || ((a.Configs.length : Int) != (b.Configs.length : Int))) || ((a.Segments.length : Int) != (b.Segments.length : Int)))))] (.cons rfl (.cons rfl (.cons (or_f hb5) .nil))) hJ2
    · refine wo_not (tj := 40) (b := true) rfl (congrArg AV.bool hb3) rfl rfl ?_
      refine wo_not (tj := 40) (b := true) rfl (congrArg AV.bool hb3) rfl rfl ?_
      refine wo_not (tj := 40) (b := true) rfl (congrArg AV.bool hb3) rfl rfl ?_
      refine wo_not (tj := 40) (b := true) rfl (congrArg AV.bool hb3) rfl rfl ?_
      refine wo_not (tj := 40) (b := true) rfl (congrArg AV.bool hb3) rfl rfl ?_
      refine wo_not (tj := 40) (b := true) rfl (congrArg AV.bool hb3) rfl rfl ?_
      refine wo_not (tj := 40) (b := true) rfl (congrArg AV.bool hb3) rfl rfl ?_
      refine wo_val (.bool true) rfl (pv_pick (t := true) (congrArg AV.bool hb3) rfl) ?_
      exact wo_is [(2, (.ptr (ix ids 0) g 0 0)), (3, (.ptr (ix ids 1) g1 0 0)), (48, (.bool ((((a.Volumes.length : Int) != (b.Volumes.length : Int)) || ((a.Sectors.length : Int) != (b.Sectors.length : Int))) || ((a.Configs.length : Int) != (b.Configs.length : Int)))))] (.cons rfl (.cons rfl (.cons (or_t hb3) .nil))) hJ1
    · refine wo_valg (tj := 40) (.ptr (ix ids 0) g 0 2) rfl (congrArg AV.bool hb3) rfl (pv_fa (fa_ptr (c := 0) (off := 2) (i := 2) ti31 rfl ti24 rfl)) ?_
      refine wo_valg (tj := 40) (.sl 3 (List.map rConfig a.Configs)) rfl (congrArg AV.bool hb3) rfl (pv_load (ld_ptr hI rfl rfl rfl ti24 rfl)) ?_
      refine wo_valg (tj := 40) (.int .i64 (a.Configs.length : Int)) rfl (congrArg AV.bool hb3) rfl (pv_len (len_sl ti24)) ?_
      refine wo_valg (tj := 40) (.ptr (ix ids 1) g1 0 2) rfl (congrArg AV.bool hb3) rfl (pv_fa (fa_ptr (c := 0) (off := 2) (i := 2) ti31 rfl ti24 rfl)) ?_
      refine wo_valg (tj := 40) (.sl 3 (List.map rConfig b.Configs)) rfl (congrArg AV.bool hb3) rfl (pv_load (ld_ptr hI rfl rfl rfl ti24 rfl)) ?_
      refine wo_valg (tj := 40) (.int .i64 (b.Configs.length : Int)) rfl (congrArg AV.bool hb3) rfl (pv_len (len_sl ti24)) ?_
      refine wo_valg (tj := 40) (.bool ((a.Configs.length : Int) != (b.Configs.length : Int))) rfl (congrArg AV.bool hb3) rfl (pv_bin rfl rfl rfl) ?_
      refine wo_val (.bool ((a.Configs.length : Int) != (b.Configs.length : Int))) rfl (pv_pick (t := false) (congrArg AV.bool hb3) rfl) ?_
      exact wo_is [(2, (.ptr (ix ids 0) g 0 0)), (3, (.ptr (ix ids 1) g1 0 0)), (48, (.bool ((((a.Volumes.length : Int) != (b.Volumes.length : Int)) || ((a.Sectors.length : Int) != (b.Sectors.length : Int))) || ((a.Configs.length : Int) != (b.Configs.length : Int)))))] (.cons rfl (.cons rfl (.cons (or_f hb3) .nil))) hJ1
  · refine wo_not (tj := 31) (b := true) rfl (congrArg AV.bool hb1) rfl rfl ?_
    refine wo_not (tj := 31) (b := true) rfl (congrArg AV.bool hb1) rfl rfl ?_
    refine wo_not (tj := 31) (b := true) rfl (congrArg AV.bool hb1) rfl rfl ?_
    refine wo_not (tj := 31) (b := true) rfl (congrArg AV.bool hb1) rfl rfl ?_
    refine wo_not (tj := 31) (b := true) rfl (congrArg AV.bool hb1) rfl rfl ?_
    refine wo_not (tj := 31) (b := true) rfl (congrArg AV.bool hb1) rfl rfl ?_
    refine wo_not (tj := 31) (b := true) rfl (congrArg AV.bool hb1) rfl rfl ?_
    refine wo_val (.bool true) rfl (pv_pick (t := true) (congrArg AV.bool hb1) rfl) ?_
    exact wo_is [(2, (.ptr (ix ids 0) g 0 0)), (3, (.ptr (ix ids 1) g1 0 0)), (39, (.bool (((a.Volumes.length : Int) != (b.Volumes.length : Int)) || ((a.Sectors.length : Int) != (b.Sectors.length : Int)))))] (.cons rfl (.cons rfl (.cons (or_t hb1) .nil))) hJ
  · refine wo_valg (tj := 31) (.ptr (ix ids 0) g 0 1) rfl (congrArg AV.bool hb1) rfl (pv_fa (fa_ptr (c := 0) (off := 1) (i := 1) ti31 rfl ti23 rfl)) ?_
    refine wo_valg (tj := 31) (.sl 5 (List.map rSector a.Sectors)) rfl (congrArg AV.bool hb1) rfl (pv_load (ld_ptr hI rfl rfl rfl ti23 rfl)) ?_
    refine wo_valg (tj := 31) (.int .i64 (a.Sectors.length : Int)) rfl (congrArg AV.bool hb1) rfl (pv_len (len_sl ti23)) ?_
    refine wo_valg (tj := 31) (.ptr (ix ids 1) g1 0 1) rfl (congrArg AV.bool hb1) rfl (pv_fa (fa_ptr (c := 0) (off := 1) (i := 1) ti31 rfl ti23 rfl)) ?_
    refine wo_valg (tj := 31) (.sl 5 (List.map rSector b.Sectors)) rfl (congrArg AV.bool hb1) rfl (pv_load (ld_ptr hI rfl rfl rfl ti23 rfl)) ?_
    refine wo_valg (tj := 31) (.int .i64 (b.Sectors.length : Int)) rfl (congrArg AV.bool hb1) rfl (pv_len (len_sl ti23)) ?_
    refine wo_valg (tj := 31) (.bool ((a.Sectors.length : Int) != (b.Sectors.length : Int))) rfl (congrArg AV.bool hb1) rfl (pv_bin rfl rfl rfl) ?_
    refine wo_val (.bool ((a.Sectors.length : Int) != (b.Sectors.length : Int))) rfl (pv_pick (t := false) (congrArg AV.bool hb1) rfl) ?_
    exact wo_is [(2, (.ptr (ix ids 0) g 0 0)), (3, (.ptr (ix ids 1) g1 0 0)), (39, (.bool (((a.Volumes.length : Int) != (b.Volumes.length : Int)) || ((a.Sectors.length : Int) != (b.Sectors.length : Int)))))] (.cons rfl (.cons rfl (.cons (or_f hb1) .nil))) hJ

theorem cp_law09_sane : CP Try.prog 10 [] (law09_sane) (fun (x : Bool) => (AV.bool x)) := by
  refine cp_intro (n := 150) 5 Try.func10 rfl (by decide) rfl rfl fun h0 ids hI => ?_
  refine wr_in (wr_mod (law09_sane.eq_1) ?_)
  refine wr_seq ?_
  refine wr_region ?_
  refine wo_val (.bool false) rfl pv_assign ?_
  refine wo_nil ?_
  refine wr_seq ?_
  refine wr_region ?_
  refine wo_val (.agg [(.str [97]), .emp]) rfl (pv_build (bd_st ti41 pl41 rfl)) ?_
  refine wo_val (.agg [(.str [98]), .emp]) rfl (pv_build (bd_st ti41 pl41 rfl)) ?_
  refine wo_bsC (e := rVolume) (L := [({ Name := [97], Closed := [] } : Volume), ({ Name := [98], Closed := [] } : Volume)]) (st := 2) (rows := [[(.str [97]), .emp], [(.str [98]), .emp]]) rfl ti22 ti41 rfl rfl rfl rfl rfl (.cons (.cons (.same _) (.cons (.emp _) .nil)) (.cons (.cons (.same _) (.cons (.emp _) .nil)) .nil)) (fun x => ok_Volume x) rfl rfl ?_
  refine wo_bsC (e := rS) (L := [[98], [97]]) (st := 1) (rows := [[(.str [98])], [(.str [97])]]) rfl ti38 ti9 rfl rfl rfl rfl rfl (.cons (RowSim.refl _) (.cons (RowSim.refl _) .nil)) (fun x => ok_S x) rfl rfl ?_
  refine wo_val (.agg [(.str [115]), (.sl 1 (List.map rS [[98], [97]])), .emp, (.int .i64 0), (.int .i64 0)]) rfl (pv_build (bd_st ti53 pl53 rfl)) ?_
  refine wo_bsC (e := rSector) (L := [({ Name := [115], Names := [[98], [97]], Volumes := [], Radar := 0, Procedural := 0 } : Sector)]) (st := 5) (rows := [[(.str [115]), (.sl 1 (List.map rS [[98], [97]])), .emp, (.int .i64 0), (.int .i64 0)]]) rfl ti23 ti53 rfl rfl rfl rfl rfl (.cons (.cons (.same _) (.cons (.same _) (.cons (.emp _) (.cons (.same _) (.cons (.same _) .nil))))) .nil) (fun x => ok_Sector x) rfl rfl ?_
  refine wo_val (.agg [(.str [104, 101, 97, 118, 121]), (.int .i64 0), (.int .i64 0), (.int .i64 0)]) rfl (pv_build (bd_st ti43 pl43 rfl)) ?_
  refine wo_bsC (e := rClass) (L := [({ Name := [104, 101, 97, 118, 121], Slow := 0, Fast := 0, Places := 0 } : Class)]) (st := 4) (rows := [[(.str [104, 101, 97, 118, 121]), (.int .i64 0), (.int .i64 0), (.int .i64 0)]]) rfl ti28 ti43 rfl rfl rfl rfl rfl (.cons (.cons (.same _) (.cons (.same _) (.cons (.same _) (.cons (.same _) .nil)))) .nil) (fun x => ok_Class x) rfl rfl ?_
  refine wo_val (.agg [(.int .i64 2), (.str [104, 101, 97, 118, 121]), (.str [110, 111, 119, 104, 101, 114, 101]), (.int .i64 0), (.int .i64 5), (.int .i64 0), (.int .i64 0), (.int .i64 0)]) rfl (pv_build (bd_st ti63 pl63 rfl)) ?_
  refine wo_bsC (e := rRule) (L := [({ Kind := 2, C := [104, 101, 97, 118, 121], A := [110, 111, 119, 104, 101, 114, 101], Class := 0, Airport := 5, N := 0, Hours := ({ From := 0, To := 0 } : Span) } : Rule)]) (st := 8) (rows := [[(.int .i64 2), (.str [104, 101, 97, 118, 121]), (.str [110, 111, 119, 104, 101, 114, 101]), (.int .i64 0), (.int .i64 5), (.int .i64 0), (.int .i64 0), (.int .i64 0)]]) rfl ti29 ti63 rfl rfl rfl rfl rfl (.cons (.cons (.same _) (.cons (.same _) (.cons (.same _) (.cons (.same _) (.cons (.same _) (.cons (.same _) (.cons (.same _) (.cons (.same _) .nil)))))))) .nil) (fun x => ok_Rule x) rfl rfl ?_
  refine wo_val (.agg [(.sl 2 (List.map rVolume [({ Name := [97], Closed := [] } : Volume), ({ Name := [98], Closed := [] } : Volume)])), (.sl 5 (List.map rSector [({ Name := [115], Names := [[98], [97]], Volumes := [], Radar := 0, Procedural := 0 } : Sector)])), .emp, .emp, .emp, .emp, (.sl 4 (List.map rClass [({ Name := [104, 101, 97, 118, 121], Slow := 0, Fast := 0, Places := 0 } : Class)])), (.sl 8 (List.map rRule [({ Kind := 2, C := [104, 101, 97, 118, 121], A := [110, 111, 119, 104, 101, 114, 101], Class := 0, Airport := 5, N := 0, Hours := ({ From := 0, To := 0 } : Span) } : Rule)]))]) rfl (pv_build (bd_st ti31 pl31 rfl)) ?_
  refine wo_alloc (j := 0) hI rfl rfl rfl rfl ti31 rfl fun g => ?_
  refine wo_store (st_ptr hI rfl rfl rfl rfl ti31 rfl rfl rfl rfl rfl) ?_
  refine wo_nil ?_
  refine wr_hp [(some (.rows g 8 [[(.sl 2 (List.map rVolume [({ Name := [97], Closed := [] } : Volume), ({ Name := [98], Closed := [] } : Volume)])), (.sl 5 (List.map rSector [({ Name := [115], Names := [[98], [97]], Volumes := [], Radar := 0, Procedural := 0 } : Sector)])), .emp, .emp, .emp, .emp, (.sl 4 (List.map rClass [({ Name := [104, 101, 97, 118, 121], Slow := 0, Fast := 0, Places := 0 } : Class)])), (.sl 8 (List.map rRule [({ Kind := 2, C := [104, 101, 97, 118, 121], A := [110, 111, 119, 104, 101, 114, 101], Class := 0, Airport := 5, N := 0, Hours := ({ From := 0, To := 0 } : Span) } : Rule)]))]])), none, none, none, none] rfl ?_
  refine wr_seq ?_
  refine wr_region ?_
  refine wo_val (.agg [(.sl 2 (List.map rVolume [({ Name := [97], Closed := [] } : Volume), ({ Name := [98], Closed := [] } : Volume)])), (.sl 5 (List.map rSector [({ Name := [115], Names := [[98], [97]], Volumes := [], Radar := 0, Procedural := 0 } : Sector)])), .emp, .emp, .emp, .emp, (.sl 4 (List.map rClass [({ Name := [104, 101, 97, 118, 121], Slow := 0, Fast := 0, Places := 0 } : Class)])), (.sl 8 (List.map rRule [({ Kind := 2, C := [104, 101, 97, 118, 121], A := [110, 111, 119, 104, 101, 114, 101], Class := 0, Airport := 5, N := 0, Hours := ({ From := 0, To := 0 } : Span) } : Rule)]))]) rfl (pv_load (ld_ptr hI rfl rfl rfl ti31 rfl)) ?_
  refine of_call [(.agg [(.sl 2 (List.map rVolume [({ Name := [97], Closed := [] } : Volume), ({ Name := [98], Closed := [] } : Volume)])), (.sl 5 (List.map rSector [({ Name := [115], Names := [[98], [97]], Volumes := [], Radar := 0, Procedural := 0 } : Sector)])), .emp, .emp, .emp, .emp, (.sl 4 (List.map rClass [({ Name := [104, 101, 97, 118, 121], Slow := 0, Fast := 0, Places := 0 } : Class)])), (.sl 8 (List.map rRule [({ Kind := 2, C := [104, 101, 97, 118, 121], A := [110, 111, 119, 104, 101, 114, 101], Class := 0, Airport := 5, N := 0, Hours := ({ From := 0, To := 0 } : Span) } : Rule)]))])] rfl rfl rfl rfl (fun hb => ACalls.weak (.cons (.aggL (.cons (.same _) (.cons (.same _) (.cons (.emp _) (.cons (.emp _) (.cons (.emp _) (.cons (.emp _) (.cons (.same _) (.cons (.same _) .nil))))))))) .nil) ((cp_names_Resolve ({ Volumes := [({ Name := [97], Closed := [] } : Volume), ({ Name := [98], Closed := [] } : Volume)], Sectors := [({ Name := [115], Names := [[98], [97]], Volumes := [], Radar := 0, Procedural := 0 } : Sector)], Configs := [], Segments := [], Routes := [], Airports := [], Classes := [({ Name := [104, 101, 97, 118, 121], Slow := 0, Fast := 0, Places := 0 } : Class)], Rules := [({ Kind := 2, C := [104, 101, 97, 118, 121], A := [110, 111, 119, 104, 101, 114, 101], Class := 0, Airport := 5, N := 0, Hours := ({ From := 0, To := 0 } : Span) } : Rule)] } : Airspace)) _ hb)) (fun v _ => wu_pan Try.func10 hI) fun r _ => ?_
  refine wo_val (.tup [(.agg (rAirspace r.1)), (.int .i64 r.2)]) rfl pv_move ?_
  refine wo_val (.agg (rAirspace r.1)) rfl (pv_ext rfl) ?_
  refine wo_val (.int .i64 r.2) rfl (pv_ext rfl) ?_
  refine wo_alloc (j := 1) hI rfl rfl rfl rfl ti31 rfl fun g1 => ?_
  refine wo_store (st_ptr hI rfl rfl rfl rfl ti31 rfl rfl rfl rfl rfl) ?_
  refine wo_val (.int .i64 r.2) rfl pv_assign ?_
  refine wo_nil ?_
  refine wr_hp [(some (.rows g 8 [[(.sl 2 (List.map rVolume [({ Name := [97], Closed := [] } : Volume), ({ Name := [98], Closed := [] } : Volume)])), (.sl 5 (List.map rSector [({ Name := [115], Names := [[98], [97]], Volumes := [], Radar := 0, Procedural := 0 } : Sector)])), .emp, .emp, .emp, .emp, (.sl 4 (List.map rClass [({ Name := [104, 101, 97, 118, 121], Slow := 0, Fast := 0, Places := 0 } : Class)])), (.sl 8 (List.map rRule [({ Kind := 2, C := [104, 101, 97, 118, 121], A := [110, 111, 119, 104, 101, 114, 101], Class := 0, Airport := 5, N := 0, Hours := ({ From := 0, To := 0 } : Span) } : Rule)]))]])), (some (.rows g1 8 [(rAirspace r.1)])), none, none, none] rfl ?_
  refine wr_seq ?_
  refine wr_region ?_
  refine wo_val (.agg [.emp, .emp, .emp, .emp, .emp, .emp, .emp, .emp]) rfl (pv_build (bd_st ti31 pl31 rfl)) ?_
  refine of_call [(.agg [.emp, .emp, .emp, .emp, .emp, .emp, .emp, .emp])] rfl rfl rfl rfl (fun hb => ACalls.weak (.cons (.aggL (.cons (.emp _) (.cons (.emp _) (.cons (.emp _) (.cons (.emp _) (.cons (.emp _) (.cons (.emp _) (.cons (.emp _) (.cons (.emp _) .nil))))))))) .nil) ((cp_names_Resolve ({ Volumes := [], Sectors := [], Configs := [], Segments := [], Routes := [], Airports := [], Classes := [], Rules := [] } : Airspace)) _ hb)) (fun v _ => wu_pan Try.func10 hI) fun r1 _ => ?_
  refine wo_val (.tup [(.agg (rAirspace r1.1)), (.int .i64 r1.2)]) rfl pv_move ?_
  refine wo_val (.agg (rAirspace r1.1)) rfl (pv_ext rfl) ?_
  refine wo_val (.int .i64 r1.2) rfl (pv_ext rfl) ?_
  refine wo_alloc (j := 2) hI rfl rfl rfl rfl ti31 rfl fun g2 => ?_
  refine wo_store (st_ptr hI rfl rfl rfl rfl ti31 rfl rfl rfl rfl rfl) ?_
  refine wo_val (.int .i64 r1.2) rfl pv_assign ?_
  refine wo_nil ?_
  refine wr_hp [(some (.rows g 8 [[(.sl 2 (List.map rVolume [({ Name := [97], Closed := [] } : Volume), ({ Name := [98], Closed := [] } : Volume)])), (.sl 5 (List.map rSector [({ Name := [115], Names := [[98], [97]], Volumes := [], Radar := 0, Procedural := 0 } : Sector)])), .emp, .emp, .emp, .emp, (.sl 4 (List.map rClass [({ Name := [104, 101, 97, 118, 121], Slow := 0, Fast := 0, Places := 0 } : Class)])), (.sl 8 (List.map rRule [({ Kind := 2, C := [104, 101, 97, 118, 121], A := [110, 111, 119, 104, 101, 114, 101], Class := 0, Airport := 5, N := 0, Hours := ({ From := 0, To := 0 } : Span) } : Rule)]))]])), (some (.rows g1 8 [(rAirspace r.1)])), (some (.rows g2 8 [(rAirspace r1.1)])), none, none] rfl ?_
  refine wr_seq ?_
  refine wr_region ?_
  refine wo_val (.agg [(.str []), .emp]) rfl (pv_build (bd_st ti41 pl41 rfl)) ?_
  refine wo_val (.agg [(.str []), .emp]) rfl (pv_build (bd_st ti41 pl41 rfl)) ?_
  refine wo_bsC (e := rVolume) (L := [({ Name := [], Closed := [] } : Volume), ({ Name := [], Closed := [] } : Volume)]) (st := 2) (rows := [[(.str []), .emp], [(.str []), .emp]]) rfl ti22 ti41 rfl rfl rfl rfl rfl (.cons (.cons (.same _) (.cons (.emp _) .nil)) (.cons (.cons (.same _) (.cons (.emp _) .nil)) .nil)) (fun x => ok_Volume x) rfl rfl ?_
  refine wo_val (.agg [(.sl 2 (List.map rVolume [({ Name := [], Closed := [] } : Volume), ({ Name := [], Closed := [] } : Volume)])), .emp, .emp, .emp, .emp, .emp, .emp, .emp]) rfl (pv_build (bd_st ti31 pl31 rfl)) ?_
  refine of_call [(.agg [(.sl 2 (List.map rVolume [({ Name := [], Closed := [] } : Volume), ({ Name := [], Closed := [] } : Volume)])), .emp, .emp, .emp, .emp, .emp, .emp, .emp])] rfl rfl rfl rfl (fun hb => ACalls.weak (.cons (.aggL (.cons (.same _) (.cons (.emp _) (.cons (.emp _) (.cons (.emp _) (.cons (.emp _) (.cons (.emp _) (.cons (.emp _) (.cons (.emp _) .nil))))))))) .nil) ((cp_names_Resolve ({ Volumes := [({ Name := [], Closed := [] } : Volume), ({ Name := [], Closed := [] } : Volume)], Sectors := [], Configs := [], Segments := [], Routes := [], Airports := [], Classes := [], Rules := [] } : Airspace)) _ hb)) (fun v _ => wu_pan Try.func10 hI) fun r2 _ => ?_
  refine wo_val (.tup [(.agg (rAirspace r2.1)), (.int .i64 r2.2)]) rfl pv_move ?_
  refine wo_val (.agg (rAirspace r2.1)) rfl (pv_ext rfl) ?_
  refine wo_val (.int .i64 r2.2) rfl (pv_ext rfl) ?_
  refine wo_alloc (j := 3) hI rfl rfl rfl rfl ti31 rfl fun g3 => ?_
  refine wo_store (st_ptr hI rfl rfl rfl rfl ti31 rfl rfl rfl rfl rfl) ?_
  refine wo_val (.int .i64 r2.2) rfl pv_assign ?_
  refine wo_nil ?_
  refine wr_hp [(some (.rows g 8 [[(.sl 2 (List.map rVolume [({ Name := [97], Closed := [] } : Volume), ({ Name := [98], Closed := [] } : Volume)])), (.sl 5 (List.map rSector [({ Name := [115], Names := [[98], [97]], Volumes := [], Radar := 0, Procedural := 0 } : Sector)])), .emp, .emp, .emp, .emp, (.sl 4 (List.map rClass [({ Name := [104, 101, 97, 118, 121], Slow := 0, Fast := 0, Places := 0 } : Class)])), (.sl 8 (List.map rRule [({ Kind := 2, C := [104, 101, 97, 118, 121], A := [110, 111, 119, 104, 101, 114, 101], Class := 0, Airport := 5, N := 0, Hours := ({ From := 0, To := 0 } : Span) } : Rule)]))]])), (some (.rows g1 8 [(rAirspace r.1)])), (some (.rows g2 8 [(rAirspace r1.1)])), (some (.rows g3 8 [(rAirspace r2.1)])), none] rfl ?_
  refine wr_seq ?_
  refine wr_region ?_
  refine wo_val (.agg [(.str [103]), (.str [97]), (.int .i64 0), (.int .i64 0), .emp]) rfl (pv_build (bd_st ti57 pl57 rfl)) ?_
  refine wo_bsC (e := rSegment) (L := [({ Name := [103], In := [97], Volume := 0, Length := 0, Open := [] } : Segment)]) (st := 5) (rows := [[(.str [103]), (.str [97]), (.int .i64 0), (.int .i64 0), .emp]]) rfl ti25 ti57 rfl rfl rfl rfl rfl (.cons (.cons (.same _) (.cons (.same _) (.cons (.same _) (.cons (.same _) (.cons (.emp _) .nil))))) .nil) (fun x => ok_Segment x) rfl rfl ?_
  refine wo_val (.agg [.emp, .emp, .emp, (.sl 5 (List.map rSegment [({ Name := [103], In := [97], Volume := 0, Length := 0, Open := [] } : Segment)])), .emp, .emp, .emp, .emp]) rfl (pv_build (bd_st ti31 pl31 rfl)) ?_
  refine of_call [(.agg [.emp, .emp, .emp, (.sl 5 (List.map rSegment [({ Name := [103], In := [97], Volume := 0, Length := 0, Open := [] } : Segment)])), .emp, .emp, .emp, .emp])] rfl rfl rfl rfl (fun hb => ACalls.weak (.cons (.aggL (.cons (.emp _) (.cons (.emp _) (.cons (.emp _) (.cons (.same _) (.cons (.emp _) (.cons (.emp _) (.cons (.emp _) (.cons (.emp _) .nil))))))))) .nil) ((cp_names_Resolve ({ Volumes := [], Sectors := [], Configs := [], Segments := [({ Name := [103], In := [97], Volume := 0, Length := 0, Open := [] } : Segment)], Routes := [], Airports := [], Classes := [], Rules := [] } : Airspace)) _ hb)) (fun v _ => wu_pan Try.func10 hI) fun r3 _ => ?_
  refine wo_val (.tup [(.agg (rAirspace r3.1)), (.int .i64 r3.2)]) rfl pv_move ?_
  refine wo_val (.agg (rAirspace r3.1)) rfl (pv_ext rfl) ?_
  refine wo_val (.int .i64 r3.2) rfl (pv_ext rfl) ?_
  refine wo_alloc (j := 4) hI rfl rfl rfl rfl ti31 rfl fun g4 => ?_
  refine wo_store (st_ptr hI rfl rfl rfl rfl ti31 rfl rfl rfl rfl rfl) ?_
  refine wo_val (.int .i64 r3.2) rfl pv_assign ?_
  refine wo_nil ?_
  refine wr_hp [(some (.rows g 8 [[(.sl 2 (List.map rVolume [({ Name := [97], Closed := [] } : Volume), ({ Name := [98], Closed := [] } : Volume)])), (.sl 5 (List.map rSector [({ Name := [115], Names := [[98], [97]], Volumes := [], Radar := 0, Procedural := 0 } : Sector)])), .emp, .emp, .emp, .emp, (.sl 4 (List.map rClass [({ Name := [104, 101, 97, 118, 121], Slow := 0, Fast := 0, Places := 0 } : Class)])), (.sl 8 (List.map rRule [({ Kind := 2, C := [104, 101, 97, 118, 121], A := [110, 111, 119, 104, 101, 114, 101], Class := 0, Airport := 5, N := 0, Hours := ({ From := 0, To := 0 } : Span) } : Rule)]))]])), (some (.rows g1 8 [(rAirspace r.1)])), (some (.rows g2 8 [(rAirspace r1.1)])), (some (.rows g3 8 [(rAirspace r2.1)])), (some (.rows g4 8 [(rAirspace r3.1)]))] rfl ?_
  refine wr_seq ?_
  refine wr_region ?_
  refine wo_val (.agg [(.sl 2 (List.map rVolume [({ Name := [97], Closed := [] } : Volume), ({ Name := [98], Closed := [] } : Volume)])), (.sl 5 (List.map rSector [({ Name := [115], Names := [[98], [97]], Volumes := [], Radar := 0, Procedural := 0 } : Sector)])), .emp, .emp, .emp, .emp, (.sl 4 (List.map rClass [({ Name := [104, 101, 97, 118, 121], Slow := 0, Fast := 0, Places := 0 } : Class)])), (.sl 8 (List.map rRule [({ Kind := 2, C := [104, 101, 97, 118, 121], A := [110, 111, 119, 104, 101, 114, 101], Class := 0, Airport := 5, N := 0, Hours := ({ From := 0, To := 0 } : Span) } : Rule)]))]) rfl (pv_load (ld_ptr hI rfl rfl rfl ti31 rfl)) ?_
  refine of_call [(.agg [(.sl 2 (List.map rVolume [({ Name := [97], Closed := [] } : Volume), ({ Name := [98], Closed := [] } : Volume)])), (.sl 5 (List.map rSector [({ Name := [115], Names := [[98], [97]], Volumes := [], Radar := 0, Procedural := 0 } : Sector)])), .emp, .emp, .emp, .emp, (.sl 4 (List.map rClass [({ Name := [104, 101, 97, 118, 121], Slow := 0, Fast := 0, Places := 0 } : Class)])), (.sl 8 (List.map rRule [({ Kind := 2, C := [104, 101, 97, 118, 121], A := [110, 111, 119, 104, 101, 114, 101], Class := 0, Airport := 5, N := 0, Hours := ({ From := 0, To := 0 } : Span) } : Rule)]))]), (.str [98])] rfl rfl rfl rfl (fun hb => ACalls.weak (.cons (.aggL (.cons (.same _) (.cons (.same _) (.cons (.emp _) (.cons (.emp _) (.cons (.emp _) (.cons (.emp _) (.cons (.same _) (.cons (.same _) .nil))))))))) (.cons (.same _) .nil)) ((cp_names_Volume ({ Volumes := [({ Name := [97], Closed := [] } : Volume), ({ Name := [98], Closed := [] } : Volume)], Sectors := [({ Name := [115], Names := [[98], [97]], Volumes := [], Radar := 0, Procedural := 0 } : Sector)], Configs := [], Segments := [], Routes := [], Airports := [], Classes := [({ Name := [104, 101, 97, 118, 121], Slow := 0, Fast := 0, Places := 0 } : Class)], Rules := [({ Kind := 2, C := [104, 101, 97, 118, 121], A := [110, 111, 119, 104, 101, 114, 101], Class := 0, Airport := 5, N := 0, Hours := ({ From := 0, To := 0 } : Span) } : Rule)] } : Airspace) [98]) _ hb)) (fun v _ => wu_pan Try.func10 hI) fun r4 _ => ?_
  refine wo_val (.tup [(.int .i64 r4.1), (.bool r4.2)]) rfl pv_move ?_
  refine wo_val (.int .i64 r4.1) rfl (pv_ext rfl) ?_
  refine wo_val (.bool r4.2) rfl (pv_ext rfl) ?_
  refine wo_val (.int .i64 r4.1) rfl pv_assign ?_
  refine wo_val (.bool r4.2) rfl pv_assign ?_
  refine wo_nil ?_
  refine wr_seq ?_
  refine wr_region ?_
  refine wo_val (.agg [.emp, .emp, .emp, .emp, .emp, .emp, .emp, .emp]) rfl (pv_build (bd_st ti31 pl31 rfl)) ?_
  refine of_call [(.agg [.emp, .emp, .emp, .emp, .emp, .emp, .emp, .emp]), (.str [])] rfl rfl rfl rfl (fun hb => ACalls.weak (.cons (.aggL (.cons (.emp _) (.cons (.emp _) (.cons (.emp _) (.cons (.emp _) (.cons (.emp _) (.cons (.emp _) (.cons (.emp _) (.cons (.emp _) .nil))))))))) (.cons (.same _) .nil)) ((cp_names_Volume ({ Volumes := [], Sectors := [], Configs := [], Segments := [], Routes := [], Airports := [], Classes := [], Rules := [] } : Airspace) []) _ hb)) (fun v _ => wu_pan Try.func10 hI) fun r5 _ => ?_
  refine wo_val (.tup [(.int .i64 r5.1), (.bool r5.2)]) rfl pv_move ?_
  refine wo_val (.int .i64 r5.1) rfl (pv_ext rfl) ?_
  refine wo_val (.bool r5.2) rfl (pv_ext rfl) ?_
  refine wo_val (.int .i64 r5.1) rfl pv_assign ?_
  refine wo_val (.bool r5.2) rfl pv_assign ?_
  refine wo_nil ?_
  refine wr_seq ?_
  refine wr_region ?_
  refine wo_val (.agg [(.sl 2 (List.map rVolume [({ Name := [97], Closed := [] } : Volume), ({ Name := [98], Closed := [] } : Volume)])), (.sl 5 (List.map rSector [({ Name := [115], Names := [[98], [97]], Volumes := [], Radar := 0, Procedural := 0 } : Sector)])), .emp, .emp, .emp, .emp, (.sl 4 (List.map rClass [({ Name := [104, 101, 97, 118, 121], Slow := 0, Fast := 0, Places := 0 } : Class)])), (.sl 8 (List.map rRule [({ Kind := 2, C := [104, 101, 97, 118, 121], A := [110, 111, 119, 104, 101, 114, 101], Class := 0, Airport := 5, N := 0, Hours := ({ From := 0, To := 0 } : Span) } : Rule)]))]) rfl (pv_load (ld_ptr hI rfl rfl rfl ti31 rfl)) ?_
  refine of_call [(.agg [(.sl 2 (List.map rVolume [({ Name := [97], Closed := [] } : Volume), ({ Name := [98], Closed := [] } : Volume)])), (.sl 5 (List.map rSector [({ Name := [115], Names := [[98], [97]], Volumes := [], Radar := 0, Procedural := 0 } : Sector)])), .emp, .emp, .emp, .emp, (.sl 4 (List.map rClass [({ Name := [104, 101, 97, 118, 121], Slow := 0, Fast := 0, Places := 0 } : Class)])), (.sl 8 (List.map rRule [({ Kind := 2, C := [104, 101, 97, 118, 121], A := [110, 111, 119, 104, 101, 114, 101], Class := 0, Airport := 5, N := 0, Hours := ({ From := 0, To := 0 } : Span) } : Rule)]))]), (.str [104, 101, 97, 118, 121])] rfl rfl rfl rfl (fun hb => ACalls.weak (.cons (.aggL (.cons (.same _) (.cons (.same _) (.cons (.emp _) (.cons (.emp _) (.cons (.emp _) (.cons (.emp _) (.cons (.same _) (.cons (.same _) .nil))))))))) (.cons (.same _) .nil)) ((cp_names_Class ({ Volumes := [({ Name := [97], Closed := [] } : Volume), ({ Name := [98], Closed := [] } : Volume)], Sectors := [({ Name := [115], Names := [[98], [97]], Volumes := [], Radar := 0, Procedural := 0 } : Sector)], Configs := [], Segments := [], Routes := [], Airports := [], Classes := [({ Name := [104, 101, 97, 118, 121], Slow := 0, Fast := 0, Places := 0 } : Class)], Rules := [({ Kind := 2, C := [104, 101, 97, 118, 121], A := [110, 111, 119, 104, 101, 114, 101], Class := 0, Airport := 5, N := 0, Hours := ({ From := 0, To := 0 } : Span) } : Rule)] } : Airspace) [104, 101, 97, 118, 121]) _ hb)) (fun v _ => wu_pan Try.func10 hI) fun r6 _ => ?_
  refine wo_val (.tup [(.int .i64 r6.1), (.bool r6.2)]) rfl pv_move ?_
  refine wo_val (.int .i64 r6.1) rfl (pv_ext rfl) ?_
  refine wo_val (.bool r6.2) rfl (pv_ext rfl) ?_
  refine wo_val (.int .i64 r6.1) rfl pv_assign ?_
  refine wo_val (.bool r6.2) rfl pv_assign ?_
  refine wo_nil ?_
  refine wr_seq ?_
  refine wr_region ?_
  refine wo_val (.agg [(.sl 2 (List.map rVolume [({ Name := [97], Closed := [] } : Volume), ({ Name := [98], Closed := [] } : Volume)])), (.sl 5 (List.map rSector [({ Name := [115], Names := [[98], [97]], Volumes := [], Radar := 0, Procedural := 0 } : Sector)])), .emp, .emp, .emp, .emp, (.sl 4 (List.map rClass [({ Name := [104, 101, 97, 118, 121], Slow := 0, Fast := 0, Places := 0 } : Class)])), (.sl 8 (List.map rRule [({ Kind := 2, C := [104, 101, 97, 118, 121], A := [110, 111, 119, 104, 101, 114, 101], Class := 0, Airport := 5, N := 0, Hours := ({ From := 0, To := 0 } : Span) } : Rule)]))]) rfl (pv_load (ld_ptr hI rfl rfl rfl ti31 rfl)) ?_
  refine of_call [(.agg [(.sl 2 (List.map rVolume [({ Name := [97], Closed := [] } : Volume), ({ Name := [98], Closed := [] } : Volume)])), (.sl 5 (List.map rSector [({ Name := [115], Names := [[98], [97]], Volumes := [], Radar := 0, Procedural := 0 } : Sector)])), .emp, .emp, .emp, .emp, (.sl 4 (List.map rClass [({ Name := [104, 101, 97, 118, 121], Slow := 0, Fast := 0, Places := 0 } : Class)])), (.sl 8 (List.map rRule [({ Kind := 2, C := [104, 101, 97, 118, 121], A := [110, 111, 119, 104, 101, 114, 101], Class := 0, Airport := 5, N := 0, Hours := ({ From := 0, To := 0 } : Span) } : Rule)]))]), (.str [97])] rfl rfl rfl rfl (fun hb => ACalls.weak (.cons (.aggL (.cons (.same _) (.cons (.same _) (.cons (.emp _) (.cons (.emp _) (.cons (.emp _) (.cons (.emp _) (.cons (.same _) (.cons (.same _) .nil))))))))) (.cons (.same _) .nil)) ((cp_names_Airport ({ Volumes := [({ Name := [97], Closed := [] } : Volume), ({ Name := [98], Closed := [] } : Volume)], Sectors := [({ Name := [115], Names := [[98], [97]], Volumes := [], Radar := 0, Procedural := 0 } : Sector)], Configs := [], Segments := [], Routes := [], Airports := [], Classes := [({ Name := [104, 101, 97, 118, 121], Slow := 0, Fast := 0, Places := 0 } : Class)], Rules := [({ Kind := 2, C := [104, 101, 97, 118, 121], A := [110, 111, 119, 104, 101, 114, 101], Class := 0, Airport := 5, N := 0, Hours := ({ From := 0, To := 0 } : Span) } : Rule)] } : Airspace) [97]) _ hb)) (fun v _ => wu_pan Try.func10 hI) fun r7 _ => ?_
  refine wo_val (.tup [(.int .i64 r7.1), (.bool r7.2)]) rfl pv_move ?_
  refine wo_val (.int .i64 r7.1) rfl (pv_ext rfl) ?_
  refine wo_val (.bool r7.2) rfl (pv_ext rfl) ?_
  refine wo_val (.int .i64 r7.1) rfl pv_assign ?_
  refine wo_val (.bool r7.2) rfl pv_assign ?_
  refine wo_nil ?_
  refine wr_seq ?_
  refine wr_seq ?_
  refine wr_region ?_
  refine wo_val (.int .i64 r.2) rfl pv_move ?_
  refine wo_val (.bool (r.2 != 0)) rfl (pv_bin rfl rfl rfl) ?_
  refine wo_val (.bool (r.2 != 0)) rfl pv_move ?_
  refine wo_meet 3 [(2, (.ptr (ix ids 1) g1 0 0)), (4, (.ptr (ix ids 2) g2 0 0)), (7, (.int .i64 r2.2)), (9, (.int .i64 r3.2)), (10, (.int .i64 r4.1)), (11, (.bool r4.2)), (13, (.bool r5.2)), (14, (.int .i64 r6.1)), (15, (.bool r6.2)), (17, (.bool r7.2)), (79, (.bool ((r.2 != 0) || (r1.2 != 0))))] ?_ fun hJ => wo_cases (r.2 != 0) (fun hb1 => ?_) (fun hb1 => ?_)
  · refine wo_val (.bool ((r.2 != 0) || (r1.2 != 0))) rfl pv_move ?_
    refine wo_meet 3 [(2, (.ptr (ix ids 1) g1 0 0)), (4, (.ptr (ix ids 2) g2 0 0)), (9, (.int .i64 r3.2)), (10, (.int .i64 r4.1)), (11, (.bool r4.2)), (13, (.bool r5.2)), (14, (.int .i64 r6.1)), (15, (.bool r6.2)), (17, (.bool r7.2)), (83, (.bool (((r.2 != 0) || (r1.2 != 0)) || (r2.2 != 91))))] ?_ fun hJ1 => wo_cases ((r.2 != 0) || (r1.2 != 0)) (fun hb3 => ?_) (fun hb3 => ?_)
    · refine wo_val (.bool (((r.2 != 0) || (r1.2 != 0)) || (r2.2 != 91))) rfl pv_move ?_
      refine wo_meet 3 [(2, (.ptr (ix ids 1) g1 0 0)), (4, (.ptr (ix ids 2) g2 0 0)), (10, (.int .i64 r4.1)), (11, (.bool r4.2)), (13, (.bool r5.2)), (14, (.int .i64 r6.1)), (15, (.bool r6.2)), (17, (.bool r7.2)), (87, (.bool ((((r.2 != 0) || (r1.2 != 0)) || (r2.2 != 91)) || (r3.2 != 90))))] ?_ fun hJ2 => wo_cases (((r.2 != 0) || (r1.2 != 0)) || (r2.2 != 91)) (fun hb5 => ?_) (fun hb5 => ?_)
      · refine wo_val (.bool ((((r.2 != 0) || (r1.2 != 0)) || (r2.2 != 91)) || (r3.2 != 90))) rfl pv_move ?_
        refine wo_meet 5 [(2, (.ptr (ix ids 1) g1 0 0)), (4, (.ptr (ix ids 2) g2 0 0)), (10, (.int .i64 r4.1)), (11, (.bool r4.2)), (13, (.bool r5.2)), (14, (.int .i64 r6.1)), (15, (.bool r6.2)), (17, (.bool r7.2)), (93, (.bool (((((r.2 != 0) || (r1.2 != 0)) || (r2.2 != 91)) || (r3.2 != 90)) || ((r.1.Sectors.length : Int) != 1))))] ?_ fun hJ3 => wo_cases ((((r.2 != 0) || (r1.2 != 0)) || (r2.2 != 91)) || (r3.2 != 90)) (fun hb7 => ?_) (fun hb7 => ?_)
        · refine wo_val (.bool (((((r.2 != 0) || (r1.2 != 0)) || (r2.2 != 91)) || (r3.2 != 90)) || ((r.1.Sectors.length : Int) != 1))) rfl pv_move ?_
          refine wo_meet 5 [(2, (.ptr (ix ids 1) g1 0 0)), (4, (.ptr (ix ids 2) g2 0 0)), (10, (.int .i64 r4.1)), (11, (.bool r4.2)), (13, (.bool r5.2)), (14, (.int .i64 r6.1)), (15, (.bool r6.2)), (17, (.bool r7.2)), (99, (.bool ((((((r.2 != 0) || (r1.2 != 0)) || (r2.2 != 91)) || (r3.2 != 90)) || ((r.1.Sectors.length : Int) != 1)) || ((r.1.Rules.length : Int) != 1))))] ?_ fun hJ4 => wo_cases (((((r.2 != 0) || (r1.2 != 0)) || (r2.2 != 91)) || (r3.2 != 90)) || ((r.1.Sectors.length : Int) != 1)) (fun hb9 => ?_) (fun hb9 => ?_)
          · refine wo_nil ?_
            refine wf_iteb rfl (fun hc => ?_) (fun hc => ?_)
            · refine wr_seq ?_
              refine wr_region ?_
              refine wo_val (.bool false) rfl pv_assign ?_
              refine wo_nil ?_
              exact wr_ret (a := false) (vs := [(.bool false)]) Try.func10 hI rfl (.same _)
            · refine wr_skip ?_
              refine wr_seq ?_
              refine wr_region ?_
              refine wo_val (.ptr (ix ids 1) g1 0 1) rfl (pv_fa (fa_ptr (c := 0) (off := 1) (i := 1) ti31 rfl ti23 rfl)) ?_
              refine wo_val (.sl 5 (List.map rSector r.1.Sectors)) rfl (pv_load (ld_ptr hI rfl rfl rfl ti23 rfl)) ?_
              refine of_idx fun a hz hx1 => ?_
              refine wo_val (.cp (rSector a) 0) rfl (pv_ixa (ixa_sl ti23 ti53 rfl hz hx1)) ?_
              refine wo_val (.cp (rSector a) 2) rfl (pv_fa (fa_cp (c := 0) (off := 2) (i := 2) ti53 rfl ti51 rfl)) ?_
              refine wo_val (.sl 1 (List.map (rI .i64) a.Volumes)) rfl (pv_load (ld_cp ti51 rfl)) ?_
              refine wo_bsC (e := (rI .i64)) (L := [1, 0]) (st := 1) (rows := [[(.int .i64 1)], [(.int .i64 0)]]) rfl ti51 ti3 rfl rfl rfl rfl rfl (.cons (RowSim.refl _) (.cons (RowSim.refl _) .nil)) (fun x => ok_I x) rfl rfl ?_
              refine of_call [(.sl 1 (List.map (rI .i64) a.Volumes)), (.sl 1 (List.map (rI .i64) [1, 0]))] rfl rfl rfl rfl ((cp_ref08_SameInts a.Volumes [1, 0]) _) (fun v _ => wu_pan Try.func10 hI) fun r8 _ => ?_
              refine wo_val (.bool r8) rfl pv_move ?_
              refine wo_join 7 ((fun (b : Bool) => (if b then (idx r.1.Rules 0).bind fun a2 =>
  R.ok (a2.A == [110, 111, 119, 104, 101, 114, 101]) else R.ok false).bind (fun (b1 : Bool) => (if b1 then (ref08_Same r1.1 ({ Volumes := [], Sectors := [], Configs := [], Segments := [], Routes := [], Airports := [], Classes := [], Rules := [] } : Airspace)).bind fun r9 =>
  R.ok r9 else R.ok false).bind (fun (b2 : Bool) => .ok ((((((b2 && (r4.1 == 1)) && r4.2) && (!r5.2)) && (r6.1 == 0)) && r6.2) && (!r7.2))))) : Bool → R Bool) (fun (b : Bool) (fr : Nat → AV) (h : AHeap) => fr = frA [(2, (.ptr (ix ids 1) g1 0 0)), (4, (.ptr (ix ids 2) g2 0 0)), (10, (.int .i64 r4.1)), (11, (.bool r4.2)), (13, (.bool r5.2)), (14, (.int .i64 r6.1)), (15, (.bool r6.2)), (17, (.bool r7.2)), (114, (.bool b))] ∧ h = hp h0 ids [(some (.rows g 8 [[(.sl 2 (List.map rVolume [({ Name := [97], Closed := [] } : Volume), ({ Name := [98], Closed := [] } : Volume)])), (.sl 5 (List.map rSector [({ Name := [115], Names := [[98], [97]], Volumes := [], Radar := 0, Procedural := 0 } : Sector)])), .emp, .emp, .emp, .emp, (.sl 4 (List.map rClass [({ Name := [104, 101, 97, 118, 121], Slow := 0, Fast := 0, Places := 0 } : Class)])), (.sl 8 (List.map rRule [({ Kind := 2, C := [104, 101, 97, 118, 121], A := [110, 111, 119, 104, 101, 114, 101], Class := 0, Airport := 5, N := 0, Hours := ({ From := 0, To := 0 } : Span) } : Rule)]))]])), (some (.rows g1 8 [(rAirspace r.1)])), (some (.rows g2 8 [(rAirspace r1.1)])), (some (.rows g3 8 [(rAirspace r2.1)])), (some (.rows g4 8 [(rAirspace r3.1)]))]) ?_ fun hJ5 => of_if1 (fun hb11 => ?_) (fun hb11 => ?_)
              · rintro b fr h ⟨rfl, rfl⟩
                refine wo_val (.bool b) rfl pv_move ?_
                refine wo_join 7 ((fun (b1 : Bool) => (if b1 then (ref08_Same r1.1 ({ Volumes := [], Sectors := [], Configs := [], Segments := [], Routes := [], Airports := [], Classes := [], Rules := [] } : Airspace)).bind fun r9 =>
  R.ok r9 else R.ok false).bind (fun (b2 : Bool) => .ok ((((((b2 && (r4.1 == 1)) && r4.2) && (!r5.2)) && (r6.1 == 0)) && r6.2) && (!r7.2)))) : Bool → R Bool) (fun (b1 : Bool) (fr : Nat → AV) (h : AHeap) => fr = frA [(4, (.ptr (ix ids 2) g2 0 0)), (10, (.int .i64 r4.1)), (11, (.bool r4.2)), (13, (.bool r5.2)), (14, (.int .i64 r6.1)), (15, (.bool r6.2)), (17, (.bool r7.2)), (122, (.bool b1))] ∧ h = hp h0 ids [(some (.rows g 8 [[(.sl 2 (List.map rVolume [({ Name := [97], Closed := [] } : Volume), ({ Name := [98], Closed := [] } : Volume)])), (.sl 5 (List.map rSector [({ Name := [115], Names := [[98], [97]], Volumes := [], Radar := 0, Procedural := 0 } : Sector)])), .emp, .emp, .emp, .emp, (.sl 4 (List.map rClass [({ Name := [104, 101, 97, 118, 121], Slow := 0, Fast := 0, Places := 0 } : Class)])), (.sl 8 (List.map rRule [({ Kind := 2, C := [104, 101, 97, 118, 121], A := [110, 111, 119, 104, 101, 114, 101], Class := 0, Airport := 5, N := 0, Hours := ({ From := 0, To := 0 } : Span) } : Rule)]))]])), (some (.rows g1 8 [(rAirspace r.1)])), (some (.rows g2 8 [(rAirspace r1.1)])), (some (.rows g3 8 [(rAirspace r2.1)])), (some (.rows g4 8 [(rAirspace r3.1)]))]) ?_ fun hJ6 => of_if1 (fun hb13 => ?_) (fun hb13 => ?_)
                · rintro b1 fr h ⟨rfl, rfl⟩
                  refine wo_val (.bool b1) rfl pv_move ?_
                  refine wo_join 4 ((fun (b2 : Bool) => .ok ((((((b2 && (r4.1 == 1)) && r4.2) && (!r5.2)) && (r6.1 == 0)) && r6.2) && (!r7.2))) : Bool → R Bool) (fun (b2 : Bool) (fr : Nat → AV) (h : AHeap) => fr = frA [(10, (.int .i64 r4.1)), (11, (.bool r4.2)), (13, (.bool r5.2)), (14, (.int .i64 r6.1)), (15, (.bool r6.2)), (17, (.bool r7.2)), (127, (.bool b2))] ∧ h = hp h0 ids [(some (.rows g 8 [[(.sl 2 (List.map rVolume [({ Name := [97], Closed := [] } : Volume), ({ Name := [98], Closed := [] } : Volume)])), (.sl 5 (List.map rSector [({ Name := [115], Names := [[98], [97]], Volumes := [], Radar := 0, Procedural := 0 } : Sector)])), .emp, .emp, .emp, .emp, (.sl 4 (List.map rClass [({ Name := [104, 101, 97, 118, 121], Slow := 0, Fast := 0, Places := 0 } : Class)])), (.sl 8 (List.map rRule [({ Kind := 2, C := [104, 101, 97, 118, 121], A := [110, 111, 119, 104, 101, 114, 101], Class := 0, Airport := 5, N := 0, Hours := ({ From := 0, To := 0 } : Span) } : Rule)]))]])), (some (.rows g1 8 [(rAirspace r.1)])), (some (.rows g2 8 [(rAirspace r1.1)])), (some (.rows g3 8 [(rAirspace r2.1)])), (some (.rows g4 8 [(rAirspace r3.1)]))]) ?_ fun hJ7 => of_if1 (fun hb15 => ?_) (fun hb15 => ?_)
                  · rintro b2 fr h ⟨rfl, rfl⟩
                    refine wo_val (.bool b2) rfl pv_move ?_
                    refine wo_meet 3 [(11, (.bool r4.2)), (13, (.bool r5.2)), (14, (.int .i64 r6.1)), (15, (.bool r6.2)), (17, (.bool r7.2)), (131, (.bool (b2 && (r4.1 == 1))))] ?_ fun hJ8 => wo_cases b2 (fun hb17 => ?_) (fun hb17 => ?_)
                    · refine wo_val (.bool (b2 && (r4.1 == 1))) rfl pv_move ?_
                      refine wo_meet 2 [(13, (.bool r5.2)), (14, (.int .i64 r6.1)), (15, (.bool r6.2)), (17, (.bool r7.2)), (134, (.bool ((b2 && (r4.1 == 1)) && r4.2)))] ?_ fun hJ9 => wo_cases (b2 && (r4.1 == 1)) (fun hb19 => ?_) (fun hb19 => ?_)
                      · refine wo_val (.bool ((b2 && (r4.1 == 1)) && r4.2)) rfl pv_move ?_
                        refine wo_meet 3 [(14, (.int .i64 r6.1)), (15, (.bool r6.2)), (17, (.bool r7.2)), (138, (.bool (((b2 && (r4.1 == 1)) && r4.2) && (!r5.2))))] ?_ fun hJ10 => wo_cases ((b2 && (r4.1 == 1)) && r4.2) (fun hb21 => ?_) (fun hb21 => ?_)
                        · refine wo_val (.bool (((b2 && (r4.1 == 1)) && r4.2) && (!r5.2))) rfl pv_move ?_
                          refine wo_meet 3 [(15, (.bool r6.2)), (17, (.bool r7.2)), (142, (.bool ((((b2 && (r4.1 == 1)) && r4.2) && (!r5.2)) && (r6.1 == 0))))] ?_ fun hJ11 => wo_cases (((b2 && (r4.1 == 1)) && r4.2) && (!r5.2)) (fun hb23 => ?_) (fun hb23 => ?_)
                          · refine wo_val (.bool ((((b2 && (r4.1 == 1)) && r4.2) && (!r5.2)) && (r6.1 == 0))) rfl pv_move ?_
                            refine wo_meet 2 [(17, (.bool r7.2)), (145, (.bool (((((b2 && (r4.1 == 1)) && r4.2) && (!r5.2)) && (r6.1 == 0)) && r6.2)))] ?_ fun hJ12 => wo_cases ((((b2 && (r4.1 == 1)) && r4.2) && (!r5.2)) && (r6.1 == 0)) (fun hb25 => ?_) (fun hb25 => ?_)
                            · refine wo_val (.bool (((((b2 && (r4.1 == 1)) && r4.2) && (!r5.2)) && (r6.1 == 0)) && r6.2)) rfl pv_move ?_
                              refine wo_meet 3 [(149, (.bool ((((((b2 && (r4.1 == 1)) && r4.2) && (!r5.2)) && (r6.1 == 0)) && r6.2) && (!r7.2))))] ?_ fun hJ13 => wo_cases (((((b2 && (r4.1 == 1)) && r4.2) && (!r5.2)) && (r6.1 == 0)) && r6.2) (fun hb27 => ?_) (fun hb27 => ?_)
                              · refine wo_val (.bool ((((((b2 && (r4.1 == 1)) && r4.2) && (!r5.2)) && (r6.1 == 0)) && r6.2) && (!r7.2))) rfl pv_assign ?_
                                refine wo_nil ?_
                                exact wr_ret (a := ((((((b2 && (r4.1 == 1)) && r4.2) && (!r5.2)) && (r6.1 == 0)) && r6.2) && (!r7.2))) (vs := [(.bool ((((((b2 && (r4.1 == 1)) && r4.2) && (!r5.2)) && (r6.1 == 0)) && r6.2) && (!r7.2)))]) Try.func10 hI rfl (.same _)
                              · refine wo_valg (tj := 146) (.bool r7.2) rfl (congrArg AV.bool hb27) rfl pv_move ?_
                                refine wo_valg (tj := 146) (.bool (!r7.2)) rfl (congrArg AV.bool hb27) rfl (pv_un rfl) ?_
                                refine wo_val (.bool (!r7.2)) rfl (pv_pick (t := true) (congrArg AV.bool hb27) rfl) ?_
                                exact wo_is [(149, (.bool ((((((b2 && (r4.1 == 1)) && r4.2) && (!r5.2)) && (r6.1 == 0)) && r6.2) && (!r7.2))))] (.cons (and_t hb27) .nil) hJ13
                              · refine wo_not (tj := 146) (b := false) rfl (congrArg AV.bool hb27) rfl rfl ?_
                                refine wo_not (tj := 146) (b := false) rfl (congrArg AV.bool hb27) rfl rfl ?_
                                refine wo_val (.bool false) rfl (pv_pick (t := false) (congrArg AV.bool hb27) rfl) ?_
                                exact wo_is [(149, (.bool ((((((b2 && (r4.1 == 1)) && r4.2) && (!r5.2)) && (r6.1 == 0)) && r6.2) && (!r7.2))))] (.cons (and_f hb27) .nil) hJ13
                            · refine wo_valg (tj := 143) (.bool r6.2) rfl (congrArg AV.bool hb25) rfl pv_move ?_
                              refine wo_val (.bool r6.2) rfl (pv_pick (t := true) (congrArg AV.bool hb25) rfl) ?_
                              exact wo_is [(17, (.bool r7.2)), (145, (.bool (((((b2 && (r4.1 == 1)) && r4.2) && (!r5.2)) && (r6.1 == 0)) && r6.2)))] (.cons rfl (.cons (and_t hb25) .nil)) hJ12
                            · refine wo_not (tj := 143) (b := false) rfl (congrArg AV.bool hb25) rfl rfl ?_
                              refine wo_val (.bool false) rfl (pv_pick (t := false) (congrArg AV.bool hb25) rfl) ?_
                              exact wo_is [(17, (.bool r7.2)), (145, (.bool (((((b2 && (r4.1 == 1)) && r4.2) && (!r5.2)) && (r6.1 == 0)) && r6.2)))] (.cons rfl (.cons (and_f hb25) .nil)) hJ12
                          · refine wo_valg (tj := 139) (.int .i64 r6.1) rfl (congrArg AV.bool hb23) rfl pv_move ?_
                            refine wo_valg (tj := 139) (.bool (r6.1 == 0)) rfl (congrArg AV.bool hb23) rfl (pv_bin rfl rfl rfl) ?_
                            refine wo_val (.bool (r6.1 == 0)) rfl (pv_pick (t := true) (congrArg AV.bool hb23) rfl) ?_
                            exact wo_is [(15, (.bool r6.2)), (17, (.bool r7.2)), (142, (.bool ((((b2 && (r4.1 == 1)) && r4.2) && (!r5.2)) && (r6.1 == 0))))] (.cons rfl (.cons rfl (.cons (and_t hb23) .nil))) hJ11
                          · refine wo_not (tj := 139) (b := false) rfl (congrArg AV.bool hb23) rfl rfl ?_
                            refine wo_not (tj := 139) (b := false) rfl (congrArg AV.bool hb23) rfl rfl ?_
                            refine wo_val (.bool false) rfl (pv_pick (t := false) (congrArg AV.bool hb23) rfl) ?_
                            exact wo_is [(15, (.bool r6.2)), (17, (.bool r7.2)), (142, (.bool ((((b2 && (r4.1 == 1)) && r4.2) && (!r5.2)) && (r6.1 == 0))))] (.cons rfl (.cons rfl (.cons (and_f hb23) .nil))) hJ11
                        · refine wo_valg (tj := 135) (.bool r5.2) rfl (congrArg AV.bool hb21) rfl pv_move ?_
                          refine wo_valg (tj := 135) (.bool (!r5.2)) rfl (congrArg AV.bool hb21) rfl (pv_un rfl) ?_
                          refine wo_val (.bool (!r5.2)) rfl (pv_pick (t := true) (congrArg AV.bool hb21) rfl) ?_
                          exact wo_is [(14, (.int .i64 r6.1)), (15, (.bool r6.2)), (17, (.bool r7.2)), (138, (.bool (((b2 && (r4.1 == 1)) && r4.2) && (!r5.2))))] (.cons rfl (.cons rfl (.cons rfl (.cons (and_t hb21) .nil)))) hJ10
                        · refine wo_not (tj := 135) (b := false) rfl (congrArg AV.bool hb21) rfl rfl ?_
                          refine wo_not (tj := 135) (b := false) rfl (congrArg AV.bool hb21) rfl rfl ?_
                          refine wo_val (.bool false) rfl (pv_pick (t := false) (congrArg AV.bool hb21) rfl) ?_
                          exact wo_is [(14, (.int .i64 r6.1)), (15, (.bool r6.2)), (17, (.bool r7.2)), (138, (.bool (((b2 && (r4.1 == 1)) && r4.2) && (!r5.2))))] (.cons rfl (.cons rfl (.cons rfl (.cons (and_f hb21) .nil)))) hJ10
                      · refine wo_valg (tj := 132) (.bool r4.2) rfl (congrArg AV.bool hb19) rfl pv_move ?_
                        refine wo_val (.bool r4.2) rfl (pv_pick (t := true) (congrArg AV.bool hb19) rfl) ?_
                        exact wo_is [(13, (.bool r5.2)), (14, (.int .i64 r6.1)), (15, (.bool r6.2)), (17, (.bool r7.2)), (134, (.bool ((b2 && (r4.1 == 1)) && r4.2)))] (.cons rfl (.cons rfl (.cons rfl (.cons rfl (.cons (and_t hb19) .nil))))) hJ9
                      · refine wo_not (tj := 132) (b := false) rfl (congrArg AV.bool hb19) rfl rfl ?_
                        refine wo_val (.bool false) rfl (pv_pick (t := false) (congrArg AV.bool hb19) rfl) ?_
                        exact wo_is [(13, (.bool r5.2)), (14, (.int .i64 r6.1)), (15, (.bool r6.2)), (17, (.bool r7.2)), (134, (.bool ((b2 && (r4.1 == 1)) && r4.2)))] (.cons rfl (.cons rfl (.cons rfl (.cons rfl (.cons (and_f hb19) .nil))))) hJ9
                    · refine wo_valg (tj := 128) (.int .i64 r4.1) rfl (congrArg AV.bool hb17) rfl pv_move ?_
                      refine wo_valg (tj := 128) (.bool (r4.1 == 1)) rfl (congrArg AV.bool hb17) rfl (pv_bin rfl rfl rfl) ?_
                      refine wo_val (.bool (r4.1 == 1)) rfl (pv_pick (t := true) (congrArg AV.bool hb17) rfl) ?_
                      exact wo_is [(11, (.bool r4.2)), (13, (.bool r5.2)), (14, (.int .i64 r6.1)), (15, (.bool r6.2)), (17, (.bool r7.2)), (131, (.bool (b2 && (r4.1 == 1))))] (.cons rfl (.cons rfl (.cons rfl (.cons rfl (.cons rfl (.cons (and_t hb17) .nil)))))) hJ8
                    · refine wo_not (tj := 128) (b := false) rfl (congrArg AV.bool hb17) rfl rfl ?_
                      refine wo_not (tj := 128) (b := false) rfl (congrArg AV.bool hb17) rfl rfl ?_
                      refine wo_val (.bool false) rfl (pv_pick (t := false) (congrArg AV.bool hb17) rfl) ?_
                      exact wo_is [(11, (.bool r4.2)), (13, (.bool r5.2)), (14, (.int .i64 r6.1)), (15, (.bool r6.2)), (17, (.bool r7.2)), (131, (.bool (b2 && (r4.1 == 1))))] (.cons rfl (.cons rfl (.cons rfl (.cons rfl (.cons rfl (.cons (and_f hb17) .nil)))))) hJ8
                  · refine wo_valg (tj := 123) (.agg (rAirspace r1.1)) rfl (congrArg AV.bool hb15) rfl (pv_load (ld_ptr hI rfl rfl rfl ti31 rfl)) ?_
                    refine wo_valg (tj := 123) (.agg [.emp, .emp, .emp, .emp, .emp, .emp, .emp, .emp]) rfl (congrArg AV.bool hb15) rfl (pv_build (bd_st ti31 pl31 rfl)) ?_
                    refine of_call [(.agg (rAirspace r1.1)), (.agg [.emp, .emp, .emp, .emp, .emp, .emp, .emp, .emp])] rfl (wanted_yes (tj := 123) rfl (congrArg AV.bool hb15)) rfl rfl (fun hb => ACalls.weak (.cons (.same _) (.cons (.aggL (.cons (.emp _) (.cons (.emp _) (.cons (.emp _) (.cons (.emp _) (.cons (.emp _) (.cons (.emp _) (.cons (.emp _) (.cons (.emp _) .nil))))))))) .nil)) ((cp_ref08_Same r1.1 ({ Volumes := [], Sectors := [], Configs := [], Segments := [], Routes := [], Airports := [], Classes := [], Rules := [] } : Airspace)) _ hb)) (fun v _ => wu_pan Try.func10 hI) fun r9 _ => ?_
                    refine wo_val (.bool r9) rfl (pv_pick (t := true) (congrArg AV.bool hb15) rfl) ?_
                    refine wo_back1 ?_
                    refine wo_is [(10, (.int .i64 r4.1)), (11, (.bool r4.2)), (13, (.bool r5.2)), (14, (.int .i64 r6.1)), (15, (.bool r6.2)), (17, (.bool r7.2)), (127, (.bool r9))] (.cons rfl (.cons rfl (.cons rfl (.cons rfl (.cons rfl (.cons rfl (.cons rfl .nil))))))) ?_
                    exact hJ7 r9 _ _ ⟨rfl, rfl⟩
                  · refine wo_not (tj := 123) (b := false) rfl (congrArg AV.bool hb15) rfl rfl ?_
                    refine wo_not (tj := 123) (b := false) rfl (congrArg AV.bool hb15) rfl rfl ?_
                    refine wo_not (tj := 123) (b := false) rfl (congrArg AV.bool hb15) rfl rfl ?_
                    refine wo_val (.bool false) rfl (pv_pick (t := false) (congrArg AV.bool hb15) rfl) ?_
                    refine wo_back1 ?_
                    refine wo_is [(10, (.int .i64 r4.1)), (11, (.bool r4.2)), (13, (.bool r5.2)), (14, (.int .i64 r6.1)), (15, (.bool r6.2)), (17, (.bool r7.2)), (127, (.bool false))] (.cons rfl (.cons rfl (.cons rfl (.cons rfl (.cons rfl (.cons rfl (.cons rfl .nil))))))) ?_
                    exact hJ7 false _ _ ⟨rfl, rfl⟩
                · refine wo_valg (tj := 115) (.ptr (ix ids 1) g1 0 7) rfl (congrArg AV.bool hb13) rfl (pv_fa (fa_ptr (c := 0) (off := 7) (i := 7) ti31 rfl ti29 rfl)) ?_
                  refine wo_valg (tj := 115) (.sl 8 (List.map rRule r.1.Rules)) rfl (congrArg AV.bool hb13) rfl (pv_load (ld_ptr hI rfl rfl rfl ti29 rfl)) ?_
                  refine of_idx fun a2 hz2 hx3 => ?_
                  refine wo_valg (tj := 115) (.cp (rRule a2) 0) rfl (congrArg AV.bool hb13) rfl (pv_ixa (ixa_sl ti29 ti63 rfl hz2 hx3)) ?_
                  refine wo_valg (tj := 115) (.cp (rRule a2) 2) rfl (congrArg AV.bool hb13) rfl (pv_fa (fa_cp (c := 0) (off := 2) (i := 2) ti63 rfl ti9 rfl)) ?_
                  refine wo_valg (tj := 115) (.str a2.A) rfl (congrArg AV.bool hb13) rfl (pv_load (ld_cp ti9 rfl)) ?_
                  refine wo_valg (tj := 115) (.bool (a2.A == [110, 111, 119, 104, 101, 114, 101])) rfl (congrArg AV.bool hb13) rfl (pv_bin rfl rfl rfl) ?_
                  refine wo_val (.bool (a2.A == [110, 111, 119, 104, 101, 114, 101])) rfl (pv_pick (t := true) (congrArg AV.bool hb13) rfl) ?_
                  refine wo_back1 ?_
                  refine wo_is [(4, (.ptr (ix ids 2) g2 0 0)), (10, (.int .i64 r4.1)), (11, (.bool r4.2)), (13, (.bool r5.2)), (14, (.int .i64 r6.1)), (15, (.bool r6.2)), (17, (.bool r7.2)), (122, (.bool (a2.A == [110, 111, 119, 104, 101, 114, 101])))] (.cons rfl (.cons rfl (.cons rfl (.cons rfl (.cons rfl (.cons rfl (.cons rfl (.cons rfl .nil)))))))) ?_
                  exact hJ6 (a2.A == [110, 111, 119, 104, 101, 114, 101]) _ _ ⟨rfl, rfl⟩
                · refine wo_not (tj := 115) (b := false) rfl (congrArg AV.bool hb13) rfl rfl ?_
                  refine wo_not (tj := 115) (b := false) rfl (congrArg AV.bool hb13) rfl rfl ?_
                  refine wo_not (tj := 115) (b := false) rfl (congrArg AV.bool hb13) rfl rfl ?_
                  refine wo_not (tj := 115) (b := false) rfl (congrArg AV.bool hb13) rfl rfl ?_
                  refine wo_not (tj := 115) (b := false) rfl (congrArg AV.bool hb13) rfl rfl ?_
                  refine wo_not (tj := 115) (b := false) rfl (congrArg AV.bool hb13) rfl rfl ?_
                  refine wo_val (.bool false) rfl (pv_pick (t := false) (congrArg AV.bool hb13) rfl) ?_
                  refine wo_back1 ?_
                  refine wo_is [(4, (.ptr (ix ids 2) g2 0 0)), (10, (.int .i64 r4.1)), (11, (.bool r4.2)), (13, (.bool r5.2)), (14, (.int .i64 r6.1)), (15, (.bool r6.2)), (17, (.bool r7.2)), (122, (.bool false))] (.cons rfl (.cons rfl (.cons rfl (.cons rfl (.cons rfl (.cons rfl (.cons rfl (.cons rfl .nil)))))))) ?_
                  exact hJ6 false _ _ ⟨rfl, rfl⟩
              · refine wo_valg (tj := 107) (.ptr (ix ids 1) g1 0 7) rfl (congrArg AV.bool hb11) rfl (pv_fa (fa_ptr (c := 0) (off := 7) (i := 7) ti31 rfl ti29 rfl)) ?_
                refine wo_valg (tj := 107) (.sl 8 (List.map rRule r.1.Rules)) rfl (congrArg AV.bool hb11) rfl (pv_load (ld_ptr hI rfl rfl rfl ti29 rfl)) ?_
                refine of_idx fun a1 hz1 hx2 => ?_
                refine wo_valg (tj := 107) (.cp (rRule a1) 0) rfl (congrArg AV.bool hb11) rfl (pv_ixa (ixa_sl ti29 ti63 rfl hz1 hx2)) ?_
                refine wo_valg (tj := 107) (.cp (rRule a1) 4) rfl (congrArg AV.bool hb11) rfl (pv_fa (fa_cp (c := 0) (off := 4) (i := 4) ti63 rfl ti3 rfl)) ?_
                refine wo_valg (tj := 107) (.int .i64 a1.Airport) rfl (congrArg AV.bool hb11) rfl (pv_load (ld_cp ti3 rfl)) ?_
                refine wo_valg (tj := 107) (.bool (a1.Airport == 0)) rfl (congrArg AV.bool hb11) rfl (pv_bin rfl rfl rfl) ?_
                refine wo_val (.bool (a1.Airport == 0)) rfl (pv_pick (t := true) (congrArg AV.bool hb11) rfl) ?_
                refine wo_back1 ?_
                refine wo_is [(2, (.ptr (ix ids 1) g1 0 0)), (4, (.ptr (ix ids 2) g2 0 0)), (10, (.int .i64 r4.1)), (11, (.bool r4.2)), (13, (.bool r5.2)), (14, (.int .i64 r6.1)), (15, (.bool r6.2)), (17, (.bool r7.2)), (114, (.bool (a1.Airport == 0)))] (.cons rfl (.cons rfl (.cons rfl (.cons rfl (.cons rfl (.cons rfl (.cons rfl (.cons rfl (.cons rfl .nil))))))))) ?_
                exact hJ5 (a1.Airport == 0) _ _ ⟨rfl, rfl⟩
              · refine wo_not (tj := 107) (b := false) rfl (congrArg AV.bool hb11) rfl rfl ?_
                refine wo_not (tj := 107) (b := false) rfl (congrArg AV.bool hb11) rfl rfl ?_
                refine wo_not (tj := 107) (b := false) rfl (congrArg AV.bool hb11) rfl rfl ?_
                refine wo_not (tj := 107) (b := false) rfl (congrArg AV.bool hb11) rfl rfl ?_
                refine wo_not (tj := 107) (b := false) rfl (congrArg AV.bool hb11) rfl rfl ?_
                refine wo_not (tj := 107) (b := false) rfl (congrArg AV.bool hb11) rfl rfl ?_
                refine wo_val (.bool false) rfl (pv_pick (t := false) (congrArg AV.bool hb11) rfl) ?_
                refine wo_back1 ?_
                refine wo_is [(2, (.ptr (ix ids 1) g1 0 0)), (4, (.ptr (ix ids 2) g2 0 0)), (10, (.int .i64 r4.1)), (11, (.bool r4.2)), (13, (.bool r5.2)), (14, (.int .i64 r6.1)), (15, (.bool r6.2)), (17, (.bool r7.2)), (114, (.bool false))] (.cons rfl (.cons rfl (.cons rfl (.cons rfl (.cons rfl (.cons rfl (.cons rfl (.cons rfl (.cons rfl .nil))))))))) ?_
                exact hJ5 false _ _ ⟨rfl, rfl⟩
          · refine wo_not (tj := 94) (b := true) rfl (congrArg AV.bool hb9) rfl rfl ?_
            refine wo_not (tj := 94) (b := true) rfl (congrArg AV.bool hb9) rfl rfl ?_
            refine wo_not (tj := 94) (b := true) rfl (congrArg AV.bool hb9) rfl rfl ?_
            refine wo_not (tj := 94) (b := true) rfl (congrArg AV.bool hb9) rfl rfl ?_
            refine wo_val (.bool true) rfl (pv_pick (t := true) (congrArg AV.bool hb9) rfl) ?_
            exact wo_is [(2, (.ptr (ix ids 1) g1 0 0)), (4, (.ptr (ix ids 2) g2 0 0)), (10, (.int .i64 r4.1)), (11, (.bool r4.2)), (13, (.bool r5.2)), (14, (.int .i64 r6.1)), (15, (.bool r6.2)), (17, (.bool r7.2)), (99, (.bool ((((((r.2 != 0) || (r1.2 != 0)) || (r2.2 != 91)) || (r3.2 != 90)) || ((r.1.Sectors.length : Int) != 1)) || ((r.1.Rules.length : Int) != 1))))] (.cons rfl (.cons rfl (.cons rfl (.cons rfl (.cons rfl (.cons rfl (.cons rfl (.cons rfl (.cons (or_t hb9) .nil))))))))) hJ4
          · refine wo_valg (tj := 94) (.ptr (ix ids 1) g1 0 7) rfl (congrArg AV.bool hb9) rfl (pv_fa (fa_ptr (c := 0) (off := 7) (i := 7) ti31 rfl ti29 rfl)) ?_
            refine wo_valg (tj := 94) (.sl 8 (List.map rRule r.1.Rules)) rfl (congrArg AV.bool hb9) rfl (pv_load (ld_ptr hI rfl rfl rfl ti29 rfl)) ?_
            refine wo_valg (tj := 94) (.int .i64 (r.1.Rules.length : Int)) rfl (congrArg AV.bool hb9) rfl (pv_len (len_sl ti29)) ?_
            refine wo_valg (tj := 94) (.bool ((r.1.Rules.length : Int) != 1)) rfl (congrArg AV.bool hb9) rfl (pv_bin rfl rfl rfl) ?_
            refine wo_val (.bool ((r.1.Rules.length : Int) != 1)) rfl (pv_pick (t := false) (congrArg AV.bool hb9) rfl) ?_
            exact wo_is [(2, (.ptr (ix ids 1) g1 0 0)), (4, (.ptr (ix ids 2) g2 0 0)), (10, (.int .i64 r4.1)), (11, (.bool r4.2)), (13, (.bool r5.2)), (14, (.int .i64 r6.1)), (15, (.bool r6.2)), (17, (.bool r7.2)), (99, (.bool ((((((r.2 != 0) || (r1.2 != 0)) || (r2.2 != 91)) || (r3.2 != 90)) || ((r.1.Sectors.length : Int) != 1)) || ((r.1.Rules.length : Int) != 1))))] (.cons rfl (.cons rfl (.cons rfl (.cons rfl (.cons rfl (.cons rfl (.cons rfl (.cons rfl (.cons (or_f hb9) .nil))))))))) hJ4
        · refine wo_not (tj := 88) (b := true) rfl (congrArg AV.bool hb7) rfl rfl ?_
          refine wo_not (tj := 88) (b := true) rfl (congrArg AV.bool hb7) rfl rfl ?_
          refine wo_not (tj := 88) (b := true) rfl (congrArg AV.bool hb7) rfl rfl ?_
          refine wo_not (tj := 88) (b := true) rfl (congrArg AV.bool hb7) rfl rfl ?_
          refine wo_val (.bool true) rfl (pv_pick (t := true) (congrArg AV.bool hb7) rfl) ?_
          exact wo_is [(2, (.ptr (ix ids 1) g1 0 0)), (4, (.ptr (ix ids 2) g2 0 0)), (10, (.int .i64 r4.1)), (11, (.bool r4.2)), (13, (.bool r5.2)), (14, (.int .i64 r6.1)), (15, (.bool r6.2)), (17, (.bool r7.2)), (93, (.bool (((((r.2 != 0) || (r1.2 != 0)) || (r2.2 != 91)) || (r3.2 != 90)) || ((r.1.Sectors.length : Int) != 1))))] (.cons rfl (.cons rfl (.cons rfl (.cons rfl (.cons rfl (.cons rfl (.cons rfl (.cons rfl (.cons (or_t hb7) .nil))))))))) hJ3
        · refine wo_valg (tj := 88) (.ptr (ix ids 1) g1 0 1) rfl (congrArg AV.bool hb7) rfl (pv_fa (fa_ptr (c := 0) (off := 1) (i := 1) ti31 rfl ti23 rfl)) ?_
          refine wo_valg (tj := 88) (.sl 5 (List.map rSector r.1.Sectors)) rfl (congrArg AV.bool hb7) rfl (pv_load (ld_ptr hI rfl rfl rfl ti23 rfl)) ?_
          refine wo_valg (tj := 88) (.int .i64 (r.1.Sectors.length : Int)) rfl (congrArg AV.bool hb7) rfl (pv_len (len_sl ti23)) ?_
          refine wo_valg (tj := 88) (.bool ((r.1.Sectors.length : Int) != 1)) rfl (congrArg AV.bool hb7) rfl (pv_bin rfl rfl rfl) ?_
          refine wo_val (.bool ((r.1.Sectors.length : Int) != 1)) rfl (pv_pick (t := false) (congrArg AV.bool hb7) rfl) ?_
          exact wo_is [(2, (.ptr (ix ids 1) g1 0 0)), (4, (.ptr (ix ids 2) g2 0 0)), (10, (.int .i64 r4.1)), (11, (.bool r4.2)), (13, (.bool r5.2)), (14, (.int .i64 r6.1)), (15, (.bool r6.2)), (17, (.bool r7.2)), (93, (.bool (((((r.2 != 0) || (r1.2 != 0)) || (r2.2 != 91)) || (r3.2 != 90)) || ((r.1.Sectors.length : Int) != 1))))] (.cons rfl (.cons rfl (.cons rfl (.cons rfl (.cons rfl (.cons rfl (.cons rfl (.cons rfl (.cons (or_f hb7) .nil))))))))) hJ3
      · refine wo_not (tj := 84) (b := true) rfl (congrArg AV.bool hb5) rfl rfl ?_
        refine wo_not (tj := 84) (b := true) rfl (congrArg AV.bool hb5) rfl rfl ?_
        refine wo_val (.bool true) rfl (pv_pick (t := true) (congrArg AV.bool hb5) rfl) ?_
        exact wo_is [(2, (.ptr (ix ids 1) g1 0 0)), (4, (.ptr (ix ids 2) g2 0 0)), (10, (.int .i64 r4.1)), (11, (.bool r4.2)), (13, (.bool r5.2)), (14, (.int .i64 r6.1)), (15, (.bool r6.2)), (17, (.bool r7.2)), (87, (.bool ((((r.2 != 0) || (r1.2 != 0)) || (r2.2 != 91)) || (r3.2 != 90))))] (.cons rfl (.cons rfl (.cons rfl (.cons rfl (.cons rfl (.cons rfl (.cons rfl (.cons rfl (.cons (or_t hb5) .nil))))))))) hJ2
      · refine wo_valg (tj := 84) (.int .i64 r3.2) rfl (congrArg AV.bool hb5) rfl pv_move ?_
        refine wo_valg (tj := 84) (.bool (r3.2 != 90)) rfl (congrArg AV.bool hb5) rfl (pv_bin rfl rfl rfl) ?_
        refine wo_val (.bool (r3.2 != 90)) rfl (pv_pick (t := false) (congrArg AV.bool hb5) rfl) ?_
        exact wo_is [(2, (.ptr (ix ids 1) g1 0 0)), (4, (.ptr (ix ids 2) g2 0 0)), (10, (.int .i64 r4.1)), (11, (.bool r4.2)), (13, (.bool r5.2)), (14, (.int .i64 r6.1)), (15, (.bool r6.2)), (17, (.bool r7.2)), (87, (.bool ((((r.2 != 0) || (r1.2 != 0)) || (r2.2 != 91)) || (r3.2 != 90))))] (.cons rfl (.cons rfl (.cons rfl (.cons rfl (.cons rfl (.cons rfl (.cons rfl (.cons rfl (.cons (or_f hb5) .nil))))))))) hJ2
    · refine wo_not (tj := 80) (b := true) rfl (congrArg AV.bool hb3) rfl rfl ?_
      refine wo_not (tj := 80) (b := true) rfl (congrArg AV.bool hb3) rfl rfl ?_
      refine wo_val (.bool true) rfl (pv_pick (t := true) (congrArg AV.bool hb3) rfl) ?_
      exact wo_is [(2, (.ptr (ix ids 1) g1 0 0)), (4, (.ptr (ix ids 2) g2 0 0)), (9, (.int .i64 r3.2)), (10, (.int .i64 r4.1)), (11, (.bool r4.2)), (13, (.bool r5.2)), (14, (.int .i64 r6.1)), (15, (.bool r6.2)), (17, (.bool r7.2)), (83, (.bool (((r.2 != 0) || (r1.2 != 0)) || (r2.2 != 91))))] (.cons rfl (.cons rfl (.cons rfl (.cons rfl (.cons rfl (.cons rfl (.cons rfl (.cons rfl (.cons rfl (.cons (or_t hb3) .nil)))))))))) hJ1
    · refine wo_valg (tj := 80) (.int .i64 r2.2) rfl (congrArg AV.bool hb3) rfl pv_move ?_
      refine wo_valg (tj := 80) (.bool (r2.2 != 91)) rfl (congrArg AV.bool hb3) rfl (pv_bin rfl rfl rfl) ?_
      refine wo_val (.bool (r2.2 != 91)) rfl (pv_pick (t := false) (congrArg AV.bool hb3) rfl) ?_
      exact wo_is [(2, (.ptr (ix ids 1) g1 0 0)), (4, (.ptr (ix ids 2) g2 0 0)), (9, (.int .i64 r3.2)), (10, (.int .i64 r4.1)), (11, (.bool r4.2)), (13, (.bool r5.2)), (14, (.int .i64 r6.1)), (15, (.bool r6.2)), (17, (.bool r7.2)), (83, (.bool (((r.2 != 0) || (r1.2 != 0)) || (r2.2 != 91))))] (.cons rfl (.cons rfl (.cons rfl (.cons rfl (.cons rfl (.cons rfl (.cons rfl (.cons rfl (.cons rfl (.cons (or_f hb3) .nil)))))))))) hJ1
  · refine wo_not (tj := 76) (b := true) rfl (congrArg AV.bool hb1) rfl rfl ?_
    refine wo_not (tj := 76) (b := true) rfl (congrArg AV.bool hb1) rfl rfl ?_
    refine wo_val (.bool true) rfl (pv_pick (t := true) (congrArg AV.bool hb1) rfl) ?_
    exact wo_is [(2, (.ptr (ix ids 1) g1 0 0)), (4, (.ptr (ix ids 2) g2 0 0)), (7, (.int .i64 r2.2)), (9, (.int .i64 r3.2)), (10, (.int .i64 r4.1)), (11, (.bool r4.2)), (13, (.bool r5.2)), (14, (.int .i64 r6.1)), (15, (.bool r6.2)), (17, (.bool r7.2)), (79, (.bool ((r.2 != 0) || (r1.2 != 0))))] (.cons rfl (.cons rfl (.cons rfl (.cons rfl (.cons rfl (.cons rfl (.cons rfl (.cons rfl (.cons rfl (.cons rfl (.cons (or_t hb1) .nil))))))))))) hJ
  · refine wo_valg (tj := 76) (.int .i64 r1.2) rfl (congrArg AV.bool hb1) rfl pv_move ?_
    refine wo_valg (tj := 76) (.bool (r1.2 != 0)) rfl (congrArg AV.bool hb1) rfl (pv_bin rfl rfl rfl) ?_
    refine wo_val (.bool (r1.2 != 0)) rfl (pv_pick (t := false) (congrArg AV.bool hb1) rfl) ?_
    exact wo_is [(2, (.ptr (ix ids 1) g1 0 0)), (4, (.ptr (ix ids 2) g2 0 0)), (7, (.int .i64 r2.2)), (9, (.int .i64 r3.2)), (10, (.int .i64 r4.1)), (11, (.bool r4.2)), (13, (.bool r5.2)), (14, (.int .i64 r6.1)), (15, (.bool r6.2)), (17, (.bool r7.2)), (79, (.bool ((r.2 != 0) || (r1.2 != 0))))] (.cons rfl (.cons rfl (.cons rfl (.cons rfl (.cons rfl (.cons rfl (.cons rfl (.cons rfl (.cons rfl (.cons rfl (.cons (or_f hb1) .nil))))))))))) hJ
end Go.Am

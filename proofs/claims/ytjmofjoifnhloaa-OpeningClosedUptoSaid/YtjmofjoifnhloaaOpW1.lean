/- The models hold of the program. Written by dc.py. -/
import Derived.Test.YtjmofjoifnhloaaOpW0
namespace Go.Am
open Go Go.Proofs
set_option maxRecDepth 100000
set_option linter.unusedSimpArgs false
set_option linter.unusedVariables false
theorem cp_ref11_Few (a : Airspace) : CP Try.prog 9 [(.agg (rAirspace a))] (ref11_Few a) (fun (x : Bool) => (AV.bool x)) := by
  refine cp_intro (n := 175) 1 Try.func9 rfl (by decide) rfl rfl fun h0 ids hI => ?_
  refine wr_in (wr_mod (ref11_Few.eq_1 _) ?_)
  refine wr_seq ?_
  refine wr_region ?_
  refine wo_box (v := (.agg (rAirspace a))) (j := 0) hI rfl rfl rfl rfl rfl rfl rfl fun g => ?_
  refine wo_val (.bool false) rfl pv_assign ?_
  refine wo_nil ?_
  refine wr_hp [(some (.rows g 8 [(rAirspace a)]))] rfl ?_
  refine wr_seq ?_
  refine wr_seq ?_
  refine wr_region ?_
  refine wo_val (.ptr (ix ids 0) g 0 0) rfl (pv_fa (fa_ptr (c := 0) (off := 0) (i := 0) ti31 rfl ti22 rfl)) ?_
  refine wo_val (.sl 2 (List.map rVolume a.Volumes)) rfl (pv_load (ld_ptr hI rfl rfl rfl ti22 rfl)) ?_
  refine wo_val (.int .i64 (a.Volumes.length : Int)) rfl (pv_len (len_sl ti22)) ?_
  refine wo_val (.bool (decide ((a.Volumes.length : Int) > 12))) rfl (pv_bin rfl rfl rfl) ?_
  refine wo_val (.bool (decide ((a.Volumes.length : Int) > 12))) rfl pv_move ?_
  refine wo_meet 5 [(1, (.ptr (ix ids 0) g 0 0)), (18, (.bool ((decide ((a.Volumes.length : Int) > 12)) || (decide ((a.Sectors.length : Int) > 12)))))] ?_ fun hJ => wo_cases (decide ((a.Volumes.length : Int) > 12)) (fun hb1 => ?_) (fun hb1 => ?_)
  · refine wo_val (.bool ((decide ((a.Volumes.length : Int) > 12)) || (decide ((a.Sectors.length : Int) > 12)))) rfl pv_move ?_
    refine wo_meet 5 [(1, (.ptr (ix ids 0) g 0 0)), (24, (.bool (((decide ((a.Volumes.length : Int) > 12)) || (decide ((a.Sectors.length : Int) > 12))) || (decide ((a.Configs.length : Int) > 8)))))] ?_ fun hJ1 => wo_cases ((decide ((a.Volumes.length : Int) > 12)) || (decide ((a.Sectors.length : Int) > 12))) (fun hb3 => ?_) (fun hb3 => ?_)
    · refine wo_val (.bool (((decide ((a.Volumes.length : Int) > 12)) || (decide ((a.Sectors.length : Int) > 12))) || (decide ((a.Configs.length : Int) > 8)))) rfl pv_move ?_
      refine wo_meet 5 [(1, (.ptr (ix ids 0) g 0 0)), (30, (.bool ((((decide ((a.Volumes.length : Int) > 12)) || (decide ((a.Sectors.length : Int) > 12))) || (decide ((a.Configs.length : Int) > 8))) || (decide ((a.Segments.length : Int) > 16)))))] ?_ fun hJ2 => wo_cases (((decide ((a.Volumes.length : Int) > 12)) || (decide ((a.Sectors.length : Int) > 12))) || (decide ((a.Configs.length : Int) > 8))) (fun hb5 => ?_) (fun hb5 => ?_)
      · refine wo_val (.bool ((((decide ((a.Volumes.length : Int) > 12)) || (decide ((a.Sectors.length : Int) > 12))) || (decide ((a.Configs.length : Int) > 8))) || (decide ((a.Segments.length : Int) > 16)))) rfl pv_move ?_
        refine wo_meet 5 [(1, (.ptr (ix ids 0) g 0 0)), (36, (.bool (((((decide ((a.Volumes.length : Int) > 12)) || (decide ((a.Sectors.length : Int) > 12))) || (decide ((a.Configs.length : Int) > 8))) || (decide ((a.Segments.length : Int) > 16))) || (decide ((a.Routes.length : Int) > 10)))))] ?_ fun hJ3 => wo_cases ((((decide ((a.Volumes.length : Int) > 12)) || (decide ((a.Sectors.length : Int) > 12))) || (decide ((a.Configs.length : Int) > 8))) || (decide ((a.Segments.length : Int) > 16))) (fun hb7 => ?_) (fun hb7 => ?_)
        · refine wo_val (.bool (((((decide ((a.Volumes.length : Int) > 12)) || (decide ((a.Sectors.length : Int) > 12))) || (decide ((a.Configs.length : Int) > 8))) || (decide ((a.Segments.length : Int) > 16))) || (decide ((a.Routes.length : Int) > 10)))) rfl pv_move ?_
          refine wo_meet 5 [(1, (.ptr (ix ids 0) g 0 0)), (42, (.bool ((((((decide ((a.Volumes.length : Int) > 12)) || (decide ((a.Sectors.length : Int) > 12))) || (decide ((a.Configs.length : Int) > 8))) || (decide ((a.Segments.length : Int) > 16))) || (decide ((a.Routes.length : Int) > 10))) || (decide ((a.Airports.length : Int) > 8)))))] ?_ fun hJ4 => wo_cases (((((decide ((a.Volumes.length : Int) > 12)) || (decide ((a.Sectors.length : Int) > 12))) || (decide ((a.Configs.length : Int) > 8))) || (decide ((a.Segments.length : Int) > 16))) || (decide ((a.Routes.length : Int) > 10))) (fun hb9 => ?_) (fun hb9 => ?_)
          · refine wo_val (.bool ((((((decide ((a.Volumes.length : Int) > 12)) || (decide ((a.Sectors.length : Int) > 12))) || (decide ((a.Configs.length : Int) > 8))) || (decide ((a.Segments.length : Int) > 16))) || (decide ((a.Routes.length : Int) > 10))) || (decide ((a.Airports.length : Int) > 8)))) rfl pv_move ?_
            refine wo_meet 5 [(1, (.ptr (ix ids 0) g 0 0)), (48, (.bool (((((((decide ((a.Volumes.length : Int) > 12)) || (decide ((a.Sectors.length : Int) > 12))) || (decide ((a.Configs.length : Int) > 8))) || (decide ((a.Segments.length : Int) > 16))) || (decide ((a.Routes.length : Int) > 10))) || (decide ((a.Airports.length : Int) > 8))) || (decide ((a.Classes.length : Int) > 6)))))] ?_ fun hJ5 => wo_cases ((((((decide ((a.Volumes.length : Int) > 12)) || (decide ((a.Sectors.length : Int) > 12))) || (decide ((a.Configs.length : Int) > 8))) || (decide ((a.Segments.length : Int) > 16))) || (decide ((a.Routes.length : Int) > 10))) || (decide ((a.Airports.length : Int) > 8))) (fun hb11 => ?_) (fun hb11 => ?_)
            · refine wo_val (.bool (((((((decide ((a.Volumes.length : Int) > 12)) || (decide ((a.Sectors.length : Int) > 12))) || (decide ((a.Configs.length : Int) > 8))) || (decide ((a.Segments.length : Int) > 16))) || (decide ((a.Routes.length : Int) > 10))) || (decide ((a.Airports.length : Int) > 8))) || (decide ((a.Classes.length : Int) > 6)))) rfl pv_move ?_
              refine wo_meet 5 [(1, (.ptr (ix ids 0) g 0 0)), (54, (.bool ((((((((decide ((a.Volumes.length : Int) > 12)) || (decide ((a.Sectors.length : Int) > 12))) || (decide ((a.Configs.length : Int) > 8))) || (decide ((a.Segments.length : Int) > 16))) || (decide ((a.Routes.length : Int) > 10))) || (decide ((a.Airports.length : Int) > 8))) || (decide ((a.Classes.length : Int) > 6))) || (decide ((a.Rules.length : Int) > 12)))))] ?_ fun hJ6 => wo_cases (((((((decide ((a.Volumes.length : Int) > 12)) || (decide ((a.Sectors.length : Int) > 12))) || (decide ((a.Configs.length : Int) > 8))) || (decide ((a.Segments.length : Int) > 16))) || (decide ((a.Routes.length : Int) > 10))) || (decide ((a.Airports.length : Int) > 8))) || (decide ((a.Classes.length : Int) > 6))) (fun hb13 => ?_) (fun hb13 => ?_)
              · refine wo_nil ?_
                refine wf_iteb rfl (fun hc => ?_) (fun hc => ?_)
                · refine wr_seq ?_
                  refine wr_region ?_
                  refine wo_val (.bool false) rfl pv_assign ?_
                  refine wo_nil ?_
                  exact wr_ret (a := false) (vs := [(.bool false)]) Try.func9 hI rfl (.same _)
                · refine wr_skip ?_
                  refine wr_seq ?_
                  refine wr_seq ?_
                  refine wr_region ?_
                  refine wo_val (.int .i64 0) rfl pv_assign ?_
                  refine wo_nil ?_
                  refine wr_block ?_
                  refine wr_is [(1, (.ptr (ix ids 0) g 0 0)), (3, (.int .i64 0))] (.cons rfl (.cons rfl .nil)) ?_
                  refine wf_each' (P := Try.prog) a.Volumes (fun _ a1 => fun _ => ref11_Few_b1 a1) ((alt (fun _ => (each (fun _ a2 => fun _ => ref11_Few_b2 a2) 0 a.Sectors ()).bind (alt (fun _ => (each (fun _ a3 => fun _ => ref11_Few_b3 a3) 0 a.Configs ()).bind (alt (fun _ => (each (fun _ a4 => fun _ => ref11_Few_b4 a4) 0 a.Segments ()).bind (alt (fun _ => (each (fun _ a5 => fun _ => ref11_Few_b5 a5) 0 a.Routes ()).bind (alt (fun _ => (each (fun _ a6 => fun _ => ref11_Few_b6 a6) 0 a.Airports ()).bind (alt (fun _ => .ok true) (fun r => .ok r))) (fun r => .ok r))) (fun r => .ok r))) (fun r => .ok r))) (fun r => .ok r))) (fun r => .ok r)) : (Unit ⊕ Bool) → R Bool)
                    (fun j => fun _ => fun (fr : Nat → AV) (h : AHeap) => fr = frA [(1, (.ptr (ix ids 0) g 0 0)), (3, (.int .i64 (j : Int)))] ∧ h = hp h0 ids [(some (.rows g 8 [(rAirspace a)]))]) () ?_ ?_ ?_
                  · exact ⟨rfl, rfl⟩
                  · rintro j a1 ha1 W hW _ fr h ⟨rfl, rfl⟩
                    refine wr_mod (m' := ref11_Few_b1 a1) rfl (wr_mod (ref11_Few_b1.eq_1 _) ?_)
                    refine wr_seq ?_
                    refine wr_seq ?_
                    refine wr_region ?_
                    refine wo_val (.int .i64 (j : Int)) rfl pv_move ?_
                    refine wo_val (.ptr (ix ids 0) g 0 0) rfl (pv_fa (fa_ptr (c := 0) (off := 0) (i := 0) ti31 rfl ti22 rfl)) ?_
                    refine wo_val (.sl 2 (List.map rVolume a.Volumes)) rfl (pv_load (ld_ptr hI rfl rfl rfl ti22 rfl)) ?_
                    refine wo_val (.int .i64 (a.Volumes.length : Int)) rfl (pv_len (len_sl ti22)) ?_
                    refine wo_val (.bool (decide ((j : Int) < (a.Volumes.length : Int)))) rfl (pv_bin rfl rfl rfl) ?_
                    refine wo_nil ?_
                    refine wr_lim (t := 57) (L := a.Volumes) rfl fun hlim1 => ?_
                    refine wr_condT rfl (Int.ofNat_lt.2 (lt_of_get ha1)) ?_
                    refine wr_skip ?_
                    refine wr_seq ?_
                    refine wr_block ?_
                    refine wr_seq ?_
                    refine wr_region ?_
                    refine wo_val (.ptr (ix ids 0) g 0 0) rfl (pv_fa (fa_ptr (c := 0) (off := 0) (i := 0) ti31 rfl ti22 rfl)) ?_
                    refine wo_val (.sl 2 (List.map rVolume a.Volumes)) rfl (pv_load (ld_ptr hI rfl rfl rfl ti22 rfl)) ?_
                    refine wo_val (.int .i64 (j : Int)) rfl pv_move ?_
                    refine wo_val (.cp (rVolume a1) 0) rfl (pv_ixa (ixa_nat ti22 ti57 rfl ha1)) ?_
                    refine wo_val (.cp (rVolume a1) 1) rfl (pv_fa (fa_cp (c := 0) (off := 1) (i := 1) ti57 rfl ti35 rfl)) ?_
                    refine wo_val (.sl 2 (List.map rSpan a1.Closed)) rfl (pv_load (ld_cp ti35 rfl)) ?_
                    refine wo_val (.int .i64 (a1.Closed.length : Int)) rfl (pv_len (len_sl ti35)) ?_
                    refine wo_val (.bool (decide ((a1.Closed.length : Int) > 8))) rfl (pv_bin rfl rfl rfl) ?_
                    refine wo_nil ?_
                    refine wf_ite rfl (fun hc1 => ?_) (fun hc1 => ?_)
                    · refine wr_seq ?_
                      refine wr_region ?_
                      refine wo_val (.bool false) rfl pv_assign ?_
                      refine wo_nil ?_
                      refine wx_each ?_
                      refine w_altr ?_
                      exact wr_ret (a := false) (vs := [(.bool false)]) Try.func9 hI rfl (.same _)
                    · refine wr_skip ?_
                      refine wr_inBlock ?_
                      refine wr_region ?_
                      refine wo_val (.int .i64 (j : Int)) rfl pv_move ?_
                      refine wo_val (.int .i64 (IntKind.wrap .i64 ((j : Int) + 1))) rfl (pv_bin rfl rfl rfl) ?_
                      refine wo_val (.int .i64 (IntKind.wrap .i64 ((j : Int) + 1))) rfl pv_assign ?_
                      refine wo_nil ?_
                      refine wr_is [(1, (.ptr (ix ids 0) g 0 0)), (3, (.int .i64 ((j + 1 : Nat) : Int)))] (.cons rfl (.cons (inc_ok (lt_of_get ha1) hlim1) .nil)) ?_
                      refine wb_each ?_
                      refine hW () _ _ ?_
                      exact ⟨rfl, rfl⟩
                  · rintro _ fr h ⟨rfl, rfl⟩
                    refine wr_mod (alt_inl _ _ _) ?_
                    refine wr_seq ?_
                    refine wr_seq ?_
                    refine wr_region ?_
                    refine wo_val (.int .i64 (a.Volumes.length : Int)) rfl pv_move ?_
                    refine wo_val (.ptr (ix ids 0) g 0 0) rfl (pv_fa (fa_ptr (c := 0) (off := 0) (i := 0) ti31 rfl ti22 rfl)) ?_
                    refine wo_val (.sl 2 (List.map rVolume a.Volumes)) rfl (pv_load (ld_ptr hI rfl rfl rfl ti22 rfl)) ?_
                    refine wo_val (.int .i64 (a.Volumes.length : Int)) rfl (pv_len (len_sl ti22)) ?_
                    refine wo_val (.bool (decide ((a.Volumes.length : Int) < (a.Volumes.length : Int)))) rfl (pv_bin rfl rfl rfl) ?_
                    refine wo_nil ?_
                    refine wr_condF rfl (Int.lt_irrefl _) ?_
                    refine wr_exit rfl ?_
                    refine wr_seq ?_
                    refine wr_seq ?_
                    refine wr_region ?_
                    refine wo_val (.int .i64 0) rfl pv_assign ?_
                    refine wo_nil ?_
                    refine wr_block ?_
                    refine wr_is [(1, (.ptr (ix ids 0) g 0 0)), (4, (.int .i64 0))] (.cons rfl (.cons rfl .nil)) ?_
                    refine wf_each' (P := Try.prog) a.Sectors (fun _ a2 => fun _ => ref11_Few_b2 a2) ((alt (fun _ => (each (fun _ a3 => fun _ => ref11_Few_b3 a3) 0 a.Configs ()).bind (alt (fun _ => (each (fun _ a4 => fun _ => ref11_Few_b4 a4) 0 a.Segments ()).bind (alt (fun _ => (each (fun _ a5 => fun _ => ref11_Few_b5 a5) 0 a.Routes ()).bind (alt (fun _ => (each (fun _ a6 => fun _ => ref11_Few_b6 a6) 0 a.Airports ()).bind (alt (fun _ => .ok true) (fun r => .ok r))) (fun r => .ok r))) (fun r => .ok r))) (fun r => .ok r))) (fun r => .ok r)) : (Unit ⊕ Bool) → R Bool)
                      (fun j1 => fun _ => fun (fr : Nat → AV) (h : AHeap) => fr = frA [(1, (.ptr (ix ids 0) g 0 0)), (4, (.int .i64 (j1 : Int)))] ∧ h = hp h0 ids [(some (.rows g 8 [(rAirspace a)]))]) () ?_ ?_ ?_
                    · exact ⟨rfl, rfl⟩
                    · rintro j1 a2 ha2 W hW1 _ fr h ⟨rfl, rfl⟩
                      refine wr_mod (m' := ref11_Few_b2 a2) rfl (wr_mod (ref11_Few_b2.eq_1 _) ?_)
                      refine wr_seq ?_
                      refine wr_seq ?_
                      refine wr_region ?_
                      refine wo_val (.int .i64 (j1 : Int)) rfl pv_move ?_
                      refine wo_val (.ptr (ix ids 0) g 0 1) rfl (pv_fa (fa_ptr (c := 0) (off := 1) (i := 1) ti31 rfl ti23 rfl)) ?_
                      refine wo_val (.sl 5 (List.map rSector a.Sectors)) rfl (pv_load (ld_ptr hI rfl rfl rfl ti23 rfl)) ?_
                      refine wo_val (.int .i64 (a.Sectors.length : Int)) rfl (pv_len (len_sl ti23)) ?_
                      refine wo_val (.bool (decide ((j1 : Int) < (a.Sectors.length : Int)))) rfl (pv_bin rfl rfl rfl) ?_
                      refine wo_nil ?_
                      refine wr_lim (t := 72) (L := a.Sectors) rfl fun hlim3 => ?_
                      refine wr_condT rfl (Int.ofNat_lt.2 (lt_of_get ha2)) ?_
                      refine wr_skip ?_
                      refine wr_seq ?_
                      refine wr_block ?_
                      refine wr_seq ?_
                      refine wr_region ?_
                      refine wo_val (.ptr (ix ids 0) g 0 1) rfl (pv_fa (fa_ptr (c := 0) (off := 1) (i := 1) ti31 rfl ti23 rfl)) ?_
                      refine wo_val (.sl 5 (List.map rSector a.Sectors)) rfl (pv_load (ld_ptr hI rfl rfl rfl ti23 rfl)) ?_
                      refine wo_val (.int .i64 (j1 : Int)) rfl pv_move ?_
                      refine wo_val (.cp (rSector a2) 0) rfl (pv_ixa (ixa_nat ti23 ti64 rfl ha2)) ?_
                      refine wo_val (.cp (rSector a2) 2) rfl (pv_fa (fa_cp (c := 0) (off := 2) (i := 2) ti64 rfl ti34 rfl)) ?_
                      refine wo_val (.sl 1 (List.map (rI .i64) a2.Volumes)) rfl (pv_load (ld_cp ti34 rfl)) ?_
                      refine wo_val (.int .i64 (a2.Volumes.length : Int)) rfl (pv_len (len_sl ti34)) ?_
                      refine wo_val (.bool (decide ((a2.Volumes.length : Int) > 16))) rfl (pv_bin rfl rfl rfl) ?_
                      refine wo_val (.bool (decide ((a2.Volumes.length : Int) > 16))) rfl pv_move ?_
                      refine wo_meet 9 [(1, (.ptr (ix ids 0) g 0 0)), (4, (.int .i64 (j1 : Int))), (94, (.bool ((decide ((a2.Volumes.length : Int) > 16)) || (decide ((a2.Names.length : Int) > 16)))))] ?_ fun hJ7 => wo_cases (decide ((a2.Volumes.length : Int) > 16)) (fun hb15 => ?_) (fun hb15 => ?_)
                      · refine wo_nil ?_
                        refine wf_iteb rfl (fun hc2 => ?_) (fun hc2 => ?_)
                        · refine wr_seq ?_
                          refine wr_region ?_
                          refine wo_val (.bool false) rfl pv_assign ?_
                          refine wo_nil ?_
                          refine wx_each ?_
                          refine w_altr ?_
                          exact wr_ret (a := false) (vs := [(.bool false)]) Try.func9 hI rfl (.same _)
                        · refine wr_skip ?_
                          refine wr_inBlock ?_
                          refine wr_region ?_
                          refine wo_val (.int .i64 (j1 : Int)) rfl pv_move ?_
                          refine wo_val (.int .i64 (IntKind.wrap .i64 ((j1 : Int) + 1))) rfl (pv_bin rfl rfl rfl) ?_
                          refine wo_val (.int .i64 (IntKind.wrap .i64 ((j1 : Int) + 1))) rfl pv_assign ?_
                          refine wo_nil ?_
                          refine wr_is [(1, (.ptr (ix ids 0) g 0 0)), (4, (.int .i64 ((j1 + 1 : Nat) : Int)))] (.cons rfl (.cons (inc_ok (lt_of_get ha2) hlim3) .nil)) ?_
                          refine wb_each ?_
                          refine hW1 () _ _ ?_
                          exact ⟨rfl, rfl⟩
                      · refine wo_not (tj := 85) (b := true) rfl (congrArg AV.bool hb15) rfl rfl ?_
                        refine wo_not (tj := 85) (b := true) rfl (congrArg AV.bool hb15) rfl rfl ?_
                        refine wo_not (tj := 85) (b := true) rfl (congrArg AV.bool hb15) rfl rfl ?_
                        refine wo_not (tj := 85) (b := true) rfl (congrArg AV.bool hb15) rfl rfl ?_
                        refine wo_not (tj := 85) (b := true) rfl (congrArg AV.bool hb15) rfl rfl ?_
                        refine wo_not (tj := 85) (b := true) rfl (congrArg AV.bool hb15) rfl rfl ?_
                        refine wo_not (tj := 85) (b := true) rfl (congrArg AV.bool hb15) rfl rfl ?_
                        refine wo_not (tj := 85) (b := true) rfl (congrArg AV.bool hb15) rfl rfl ?_
                        refine wo_val (.bool true) rfl (pv_pick (t := true) (congrArg AV.bool hb15) rfl) ?_
                        exact wo_is [(1, (.ptr (ix ids 0) g 0 0)), (4, (.int .i64 (j1 : Int))), (94, (.bool ((decide ((a2.Volumes.length : Int) > 16)) || (decide ((a2.Names.length : Int) > 16)))))] (.cons rfl (.cons rfl (.cons (or_t hb15) .nil))) hJ7
                      · refine wo_valg (tj := 85) (.ptr (ix ids 0) g 0 1) rfl (congrArg AV.bool hb15) rfl (pv_fa (fa_ptr (c := 0) (off := 1) (i := 1) ti31 rfl ti23 rfl)) ?_
                        refine wo_valg (tj := 85) (.sl 5 (List.map rSector a.Sectors)) rfl (congrArg AV.bool hb15) rfl (pv_load (ld_ptr hI rfl rfl rfl ti23 rfl)) ?_
                        refine wo_valg (tj := 85) (.int .i64 (j1 : Int)) rfl (congrArg AV.bool hb15) rfl pv_move ?_
                        refine wo_valg (tj := 85) (.cp (rSector a2) 0) rfl (congrArg AV.bool hb15) rfl (pv_ixa (ixa_nat ti23 ti64 rfl ha2)) ?_
                        refine wo_valg (tj := 85) (.cp (rSector a2) 1) rfl (congrArg AV.bool hb15) rfl (pv_fa (fa_cp (c := 0) (off := 1) (i := 1) ti64 rfl ti48 rfl)) ?_
                        refine wo_valg (tj := 85) (.sl 1 (List.map rS a2.Names)) rfl (congrArg AV.bool hb15) rfl (pv_load (ld_cp ti48 rfl)) ?_
                        refine wo_valg (tj := 85) (.int .i64 (a2.Names.length : Int)) rfl (congrArg AV.bool hb15) rfl (pv_len (len_sl ti48)) ?_
                        refine wo_valg (tj := 85) (.bool (decide ((a2.Names.length : Int) > 16))) rfl (congrArg AV.bool hb15) rfl (pv_bin rfl rfl rfl) ?_
                        refine wo_val (.bool (decide ((a2.Names.length : Int) > 16))) rfl (pv_pick (t := false) (congrArg AV.bool hb15) rfl) ?_
                        exact wo_is [(1, (.ptr (ix ids 0) g 0 0)), (4, (.int .i64 (j1 : Int))), (94, (.bool ((decide ((a2.Volumes.length : Int) > 16)) || (decide ((a2.Names.length : Int) > 16)))))] (.cons rfl (.cons rfl (.cons (or_f hb15) .nil))) hJ7
                    · rintro _ fr h ⟨rfl, rfl⟩
                      refine wr_mod (alt_inl _ _ _) ?_
                      refine wr_seq ?_
                      refine wr_seq ?_
                      refine wr_region ?_
                      refine wo_val (.int .i64 (a.Sectors.length : Int)) rfl pv_move ?_
                      refine wo_val (.ptr (ix ids 0) g 0 1) rfl (pv_fa (fa_ptr (c := 0) (off := 1) (i := 1) ti31 rfl ti23 rfl)) ?_
                      refine wo_val (.sl 5 (List.map rSector a.Sectors)) rfl (pv_load (ld_ptr hI rfl rfl rfl ti23 rfl)) ?_
                      refine wo_val (.int .i64 (a.Sectors.length : Int)) rfl (pv_len (len_sl ti23)) ?_
                      refine wo_val (.bool (decide ((a.Sectors.length : Int) < (a.Sectors.length : Int)))) rfl (pv_bin rfl rfl rfl) ?_
                      refine wo_nil ?_
                      refine wr_condF rfl (Int.lt_irrefl _) ?_
                      refine wr_exit rfl ?_
                      refine wr_seq ?_
                      refine wr_seq ?_
                      refine wr_region ?_
                      refine wo_val (.int .i64 0) rfl pv_assign ?_
                      refine wo_nil ?_
                      refine wr_block ?_
                      refine wr_is [(1, (.ptr (ix ids 0) g 0 0)), (5, (.int .i64 0))] (.cons rfl (.cons rfl .nil)) ?_
                      refine wf_each' (P := Try.prog) a.Configs (fun _ a3 => fun _ => ref11_Few_b3 a3) ((alt (fun _ => (each (fun _ a4 => fun _ => ref11_Few_b4 a4) 0 a.Segments ()).bind (alt (fun _ => (each (fun _ a5 => fun _ => ref11_Few_b5 a5) 0 a.Routes ()).bind (alt (fun _ => (each (fun _ a6 => fun _ => ref11_Few_b6 a6) 0 a.Airports ()).bind (alt (fun _ => .ok true) (fun r => .ok r))) (fun r => .ok r))) (fun r => .ok r))) (fun r => .ok r)) : (Unit ⊕ Bool) → R Bool)
                        (fun j2 => fun _ => fun (fr : Nat → AV) (h : AHeap) => fr = frA [(1, (.ptr (ix ids 0) g 0 0)), (5, (.int .i64 (j2 : Int)))] ∧ h = hp h0 ids [(some (.rows g 8 [(rAirspace a)]))]) () ?_ ?_ ?_
                      · exact ⟨rfl, rfl⟩
                      · rintro j2 a3 ha3 W hW2 _ fr h ⟨rfl, rfl⟩
                        refine wr_mod (m' := ref11_Few_b3 a3) rfl (wr_mod (ref11_Few_b3.eq_1 _) ?_)
                        refine wr_seq ?_
                        refine wr_seq ?_
                        refine wr_region ?_
                        refine wo_val (.int .i64 (j2 : Int)) rfl pv_move ?_
                        refine wo_val (.ptr (ix ids 0) g 0 2) rfl (pv_fa (fa_ptr (c := 0) (off := 2) (i := 2) ti31 rfl ti24 rfl)) ?_
                        refine wo_val (.sl 3 (List.map rConfig a.Configs)) rfl (pv_load (ld_ptr hI rfl rfl rfl ti24 rfl)) ?_
                        refine wo_val (.int .i64 (a.Configs.length : Int)) rfl (pv_len (len_sl ti24)) ?_
                        refine wo_val (.bool (decide ((j2 : Int) < (a.Configs.length : Int)))) rfl (pv_bin rfl rfl rfl) ?_
                        refine wo_nil ?_
                        refine wr_lim (t := 97) (L := a.Configs) rfl fun hlim5 => ?_
                        refine wr_condT rfl (Int.ofNat_lt.2 (lt_of_get ha3)) ?_
                        refine wr_skip ?_
                        refine wr_seq ?_
                        refine wr_block ?_
                        refine wr_seq ?_
                        refine wr_region ?_
                        refine wo_val (.ptr (ix ids 0) g 0 2) rfl (pv_fa (fa_ptr (c := 0) (off := 2) (i := 2) ti31 rfl ti24 rfl)) ?_
                        refine wo_val (.sl 3 (List.map rConfig a.Configs)) rfl (pv_load (ld_ptr hI rfl rfl rfl ti24 rfl)) ?_
                        refine wo_val (.int .i64 (j2 : Int)) rfl pv_move ?_
                        refine wo_val (.cp (rConfig a3) 0) rfl (pv_ixa (ixa_nat ti24 ti66 rfl ha3)) ?_
                        refine wo_val (.cp (rConfig a3) 2) rfl (pv_fa (fa_cp (c := 0) (off := 2) (i := 2) ti66 rfl ti34 rfl)) ?_
                        refine wo_val (.sl 1 (List.map (rI .i64) a3.Sectors)) rfl (pv_load (ld_cp ti34 rfl)) ?_
                        refine wo_val (.int .i64 (a3.Sectors.length : Int)) rfl (pv_len (len_sl ti34)) ?_
                        refine wo_val (.bool (decide ((a3.Sectors.length : Int) > 16))) rfl (pv_bin rfl rfl rfl) ?_
                        refine wo_val (.bool (decide ((a3.Sectors.length : Int) > 16))) rfl pv_move ?_
                        refine wo_meet 9 [(1, (.ptr (ix ids 0) g 0 0)), (5, (.int .i64 (j2 : Int))), (119, (.bool ((decide ((a3.Sectors.length : Int) > 16)) || (decide ((a3.Names.length : Int) > 16)))))] ?_ fun hJ8 => wo_cases (decide ((a3.Sectors.length : Int) > 16)) (fun hb17 => ?_) (fun hb17 => ?_)
                        · refine wo_nil ?_
                          refine wf_iteb rfl (fun hc3 => ?_) (fun hc3 => ?_)
                          · refine wr_seq ?_
                            refine wr_region ?_
                            refine wo_val (.bool false) rfl pv_assign ?_
                            refine wo_nil ?_
                            refine wx_each ?_
                            refine w_altr ?_
                            exact wr_ret (a := false) (vs := [(.bool false)]) Try.func9 hI rfl (.same _)
                          · refine wr_skip ?_
                            refine wr_inBlock ?_
                            refine wr_region ?_
                            refine wo_val (.int .i64 (j2 : Int)) rfl pv_move ?_
                            refine wo_val (.int .i64 (IntKind.wrap .i64 ((j2 : Int) + 1))) rfl (pv_bin rfl rfl rfl) ?_
                            refine wo_val (.int .i64 (IntKind.wrap .i64 ((j2 : Int) + 1))) rfl pv_assign ?_
                            refine wo_nil ?_
                            refine wr_is [(1, (.ptr (ix ids 0) g 0 0)), (5, (.int .i64 ((j2 + 1 : Nat) : Int)))] (.cons rfl (.cons (inc_ok (lt_of_get ha3) hlim5) .nil)) ?_
                            refine wb_each ?_
                            refine hW2 () _ _ ?_
                            exact ⟨rfl, rfl⟩
                        · refine wo_not (tj := 110) (b := true) rfl (congrArg AV.bool hb17) rfl rfl ?_
                          refine wo_not (tj := 110) (b := true) rfl (congrArg AV.bool hb17) rfl rfl ?_
                          refine wo_not (tj := 110) (b := true) rfl (congrArg AV.bool hb17) rfl rfl ?_
                          refine wo_not (tj := 110) (b := true) rfl (congrArg AV.bool hb17) rfl rfl ?_
                          refine wo_not (tj := 110) (b := true) rfl (congrArg AV.bool hb17) rfl rfl ?_
                          refine wo_not (tj := 110) (b := true) rfl (congrArg AV.bool hb17) rfl rfl ?_
                          refine wo_not (tj := 110) (b := true) rfl (congrArg AV.bool hb17) rfl rfl ?_
                          refine wo_not (tj := 110) (b := true) rfl (congrArg AV.bool hb17) rfl rfl ?_
                          refine wo_val (.bool true) rfl (pv_pick (t := true) (congrArg AV.bool hb17) rfl) ?_
                          exact wo_is [(1, (.ptr (ix ids 0) g 0 0)), (5, (.int .i64 (j2 : Int))), (119, (.bool ((decide ((a3.Sectors.length : Int) > 16)) || (decide ((a3.Names.length : Int) > 16)))))] (.cons rfl (.cons rfl (.cons (or_t hb17) .nil))) hJ8
                        · refine wo_valg (tj := 110) (.ptr (ix ids 0) g 0 2) rfl (congrArg AV.bool hb17) rfl (pv_fa (fa_ptr (c := 0) (off := 2) (i := 2) ti31 rfl ti24 rfl)) ?_
                          refine wo_valg (tj := 110) (.sl 3 (List.map rConfig a.Configs)) rfl (congrArg AV.bool hb17) rfl (pv_load (ld_ptr hI rfl rfl rfl ti24 rfl)) ?_
                          refine wo_valg (tj := 110) (.int .i64 (j2 : Int)) rfl (congrArg AV.bool hb17) rfl pv_move ?_
                          refine wo_valg (tj := 110) (.cp (rConfig a3) 0) rfl (congrArg AV.bool hb17) rfl (pv_ixa (ixa_nat ti24 ti66 rfl ha3)) ?_
                          refine wo_valg (tj := 110) (.cp (rConfig a3) 1) rfl (congrArg AV.bool hb17) rfl (pv_fa (fa_cp (c := 0) (off := 1) (i := 1) ti66 rfl ti48 rfl)) ?_
                          refine wo_valg (tj := 110) (.sl 1 (List.map rS a3.Names)) rfl (congrArg AV.bool hb17) rfl (pv_load (ld_cp ti48 rfl)) ?_
                          refine wo_valg (tj := 110) (.int .i64 (a3.Names.length : Int)) rfl (congrArg AV.bool hb17) rfl (pv_len (len_sl ti48)) ?_
                          refine wo_valg (tj := 110) (.bool (decide ((a3.Names.length : Int) > 16))) rfl (congrArg AV.bool hb17) rfl (pv_bin rfl rfl rfl) ?_
                          refine wo_val (.bool (decide ((a3.Names.length : Int) > 16))) rfl (pv_pick (t := false) (congrArg AV.bool hb17) rfl) ?_
                          exact wo_is [(1, (.ptr (ix ids 0) g 0 0)), (5, (.int .i64 (j2 : Int))), (119, (.bool ((decide ((a3.Sectors.length : Int) > 16)) || (decide ((a3.Names.length : Int) > 16)))))] (.cons rfl (.cons rfl (.cons (or_f hb17) .nil))) hJ8
                      · rintro _ fr h ⟨rfl, rfl⟩
                        refine wr_mod (alt_inl _ _ _) ?_
                        refine wr_seq ?_
                        refine wr_seq ?_
                        refine wr_region ?_
                        refine wo_val (.int .i64 (a.Configs.length : Int)) rfl pv_move ?_
                        refine wo_val (.ptr (ix ids 0) g 0 2) rfl (pv_fa (fa_ptr (c := 0) (off := 2) (i := 2) ti31 rfl ti24 rfl)) ?_
                        refine wo_val (.sl 3 (List.map rConfig a.Configs)) rfl (pv_load (ld_ptr hI rfl rfl rfl ti24 rfl)) ?_
                        refine wo_val (.int .i64 (a.Configs.length : Int)) rfl (pv_len (len_sl ti24)) ?_
                        refine wo_val (.bool (decide ((a.Configs.length : Int) < (a.Configs.length : Int)))) rfl (pv_bin rfl rfl rfl) ?_
                        refine wo_nil ?_
                        refine wr_condF rfl (Int.lt_irrefl _) ?_
                        refine wr_exit rfl ?_
                        refine wr_seq ?_
                        refine wr_seq ?_
                        refine wr_region ?_
                        refine wo_val (.int .i64 0) rfl pv_assign ?_
                        refine wo_nil ?_
                        refine wr_block ?_
                        refine wr_is [(1, (.ptr (ix ids 0) g 0 0)), (6, (.int .i64 0))] (.cons rfl (.cons rfl .nil)) ?_
                        refine wf_each' (P := Try.prog) a.Segments (fun _ a4 => fun _ => ref11_Few_b4 a4) ((alt (fun _ => (each (fun _ a5 => fun _ => ref11_Few_b5 a5) 0 a.Routes ()).bind (alt (fun _ => (each (fun _ a6 => fun _ => ref11_Few_b6 a6) 0 a.Airports ()).bind (alt (fun _ => .ok true) (fun r => .ok r))) (fun r => .ok r))) (fun r => .ok r)) : (Unit ⊕ Bool) → R Bool)
                          (fun j3 => fun _ => fun (fr : Nat → AV) (h : AHeap) => fr = frA [(1, (.ptr (ix ids 0) g 0 0)), (6, (.int .i64 (j3 : Int)))] ∧ h = hp h0 ids [(some (.rows g 8 [(rAirspace a)]))]) () ?_ ?_ ?_
                        · exact ⟨rfl, rfl⟩
                        · rintro j3 a4 ha4 W hW3 _ fr h ⟨rfl, rfl⟩
                          refine wr_mod (m' := ref11_Few_b4 a4) rfl (wr_mod (ref11_Few_b4.eq_1 _) ?_)
                          refine wr_seq ?_
                          refine wr_seq ?_
                          refine wr_region ?_
                          refine wo_val (.int .i64 (j3 : Int)) rfl pv_move ?_
                          refine wo_val (.ptr (ix ids 0) g 0 3) rfl (pv_fa (fa_ptr (c := 0) (off := 3) (i := 3) ti31 rfl ti25 rfl)) ?_
                          refine wo_val (.sl 5 (List.map rSegment a.Segments)) rfl (pv_load (ld_ptr hI rfl rfl rfl ti25 rfl)) ?_
                          refine wo_val (.int .i64 (a.Segments.length : Int)) rfl (pv_len (len_sl ti25)) ?_
                          refine wo_val (.bool (decide ((j3 : Int) < (a.Segments.length : Int)))) rfl (pv_bin rfl rfl rfl) ?_
                          refine wo_nil ?_
                          refine wr_lim (t := 122) (L := a.Segments) rfl fun hlim7 => ?_
                          refine wr_condT rfl (Int.ofNat_lt.2 (lt_of_get ha4)) ?_
                          refine wr_skip ?_
                          refine wr_seq ?_
                          refine wr_block ?_
                          refine wr_seq ?_
                          refine wr_region ?_
                          refine wo_val (.ptr (ix ids 0) g 0 3) rfl (pv_fa (fa_ptr (c := 0) (off := 3) (i := 3) ti31 rfl ti25 rfl)) ?_
                          refine wo_val (.sl 5 (List.map rSegment a.Segments)) rfl (pv_load (ld_ptr hI rfl rfl rfl ti25 rfl)) ?_
                          refine wo_val (.int .i64 (j3 : Int)) rfl pv_move ?_
                          refine wo_val (.cp (rSegment a4) 0) rfl (pv_ixa (ixa_nat ti25 ti59 rfl ha4)) ?_
                          refine wo_val (.cp (rSegment a4) 4) rfl (pv_fa (fa_cp (c := 0) (off := 4) (i := 4) ti59 rfl ti35 rfl)) ?_
                          refine wo_val (.sl 2 (List.map rSpan a4.Open)) rfl (pv_load (ld_cp ti35 rfl)) ?_
                          refine wo_val (.int .i64 (a4.Open.length : Int)) rfl (pv_len (len_sl ti35)) ?_
                          refine wo_val (.bool (decide ((a4.Open.length : Int) > 8))) rfl (pv_bin rfl rfl rfl) ?_
                          refine wo_nil ?_
                          refine wf_ite rfl (fun hc4 => ?_) (fun hc4 => ?_)
                          · refine wr_seq ?_
                            refine wr_region ?_
                            refine wo_val (.bool false) rfl pv_assign ?_
                            refine wo_nil ?_
                            refine wx_each ?_
                            refine w_altr ?_
                            exact wr_ret (a := false) (vs := [(.bool false)]) Try.func9 hI rfl (.same _)
                          · refine wr_skip ?_
                            refine wr_inBlock ?_
                            refine wr_region ?_
                            refine wo_val (.int .i64 (j3 : Int)) rfl pv_move ?_
                            refine wo_val (.int .i64 (IntKind.wrap .i64 ((j3 : Int) + 1))) rfl (pv_bin rfl rfl rfl) ?_
                            refine wo_val (.int .i64 (IntKind.wrap .i64 ((j3 : Int) + 1))) rfl pv_assign ?_
                            refine wo_nil ?_
                            refine wr_is [(1, (.ptr (ix ids 0) g 0 0)), (6, (.int .i64 ((j3 + 1 : Nat) : Int)))] (.cons rfl (.cons (inc_ok (lt_of_get ha4) hlim7) .nil)) ?_
                            refine wb_each ?_
                            refine hW3 () _ _ ?_
                            exact ⟨rfl, rfl⟩
                        · rintro _ fr h ⟨rfl, rfl⟩
                          refine wr_mod (alt_inl _ _ _) ?_
                          refine wr_seq ?_
                          refine wr_seq ?_
                          refine wr_region ?_
                          refine wo_val (.int .i64 (a.Segments.length : Int)) rfl pv_move ?_
                          refine wo_val (.ptr (ix ids 0) g 0 3) rfl (pv_fa (fa_ptr (c := 0) (off := 3) (i := 3) ti31 rfl ti25 rfl)) ?_
                          refine wo_val (.sl 5 (List.map rSegment a.Segments)) rfl (pv_load (ld_ptr hI rfl rfl rfl ti25 rfl)) ?_
                          refine wo_val (.int .i64 (a.Segments.length : Int)) rfl (pv_len (len_sl ti25)) ?_
                          refine wo_val (.bool (decide ((a.Segments.length : Int) < (a.Segments.length : Int)))) rfl (pv_bin rfl rfl rfl) ?_
                          refine wo_nil ?_
                          refine wr_condF rfl (Int.lt_irrefl _) ?_
                          refine wr_exit rfl ?_
                          refine wr_seq ?_
                          refine wr_seq ?_
                          refine wr_region ?_
                          refine wo_val (.int .i64 0) rfl pv_assign ?_
                          refine wo_nil ?_
                          refine wr_block ?_
                          refine wr_is [(1, (.ptr (ix ids 0) g 0 0)), (7, (.int .i64 0))] (.cons rfl (.cons rfl .nil)) ?_
                          refine wf_each' (P := Try.prog) a.Routes (fun _ a5 => fun _ => ref11_Few_b5 a5) ((alt (fun _ => (each (fun _ a6 => fun _ => ref11_Few_b6 a6) 0 a.Airports ()).bind (alt (fun _ => .ok true) (fun r => .ok r))) (fun r => .ok r)) : (Unit ⊕ Bool) → R Bool)
                            (fun j4 => fun _ => fun (fr : Nat → AV) (h : AHeap) => fr = frA [(1, (.ptr (ix ids 0) g 0 0)), (7, (.int .i64 (j4 : Int)))] ∧ h = hp h0 ids [(some (.rows g 8 [(rAirspace a)]))]) () ?_ ?_ ?_
                          · exact ⟨rfl, rfl⟩
                          · rintro j4 a5 ha5 W hW4 _ fr h ⟨rfl, rfl⟩
                            refine wr_mod (m' := ref11_Few_b5 a5) rfl (wr_mod (ref11_Few_b5.eq_1 _) ?_)
                            refine wr_seq ?_
                            refine wr_seq ?_
                            refine wr_region ?_
                            refine wo_val (.int .i64 (j4 : Int)) rfl pv_move ?_
                            refine wo_val (.ptr (ix ids 0) g 0 4) rfl (pv_fa (fa_ptr (c := 0) (off := 4) (i := 4) ti31 rfl ti26 rfl)) ?_
                            refine wo_val (.sl 7 (List.map rRoute a.Routes)) rfl (pv_load (ld_ptr hI rfl rfl rfl ti26 rfl)) ?_
                            refine wo_val (.int .i64 (a.Routes.length : Int)) rfl (pv_len (len_sl ti26)) ?_
                            refine wo_val (.bool (decide ((j4 : Int) < (a.Routes.length : Int)))) rfl (pv_bin rfl rfl rfl) ?_
                            refine wo_nil ?_
                            refine wr_lim (t := 137) (L := a.Routes) rfl fun hlim9 => ?_
                            refine wr_condT rfl (Int.ofNat_lt.2 (lt_of_get ha5)) ?_
                            refine wr_skip ?_
                            refine wr_seq ?_
                            refine wr_block ?_
                            refine wr_seq ?_
                            refine wr_region ?_
                            refine wo_val (.ptr (ix ids 0) g 0 4) rfl (pv_fa (fa_ptr (c := 0) (off := 4) (i := 4) ti31 rfl ti26 rfl)) ?_
                            refine wo_val (.sl 7 (List.map rRoute a.Routes)) rfl (pv_load (ld_ptr hI rfl rfl rfl ti26 rfl)) ?_
                            refine wo_val (.int .i64 (j4 : Int)) rfl pv_move ?_
                            refine wo_val (.cp (rRoute a5) 0) rfl (pv_ixa (ixa_nat ti26 ti50 rfl ha5)) ?_
                            refine wo_val (.cp (rRoute a5) 6) rfl (pv_fa (fa_cp (c := 0) (off := 6) (i := 6) ti50 rfl ti34 rfl)) ?_
                            refine wo_val (.sl 1 (List.map (rI .i64) a5.Segments)) rfl (pv_load (ld_cp ti34 rfl)) ?_
                            refine wo_val (.int .i64 (a5.Segments.length : Int)) rfl (pv_len (len_sl ti34)) ?_
                            refine wo_val (.bool (decide ((a5.Segments.length : Int) > 10))) rfl (pv_bin rfl rfl rfl) ?_
                            refine wo_val (.bool (decide ((a5.Segments.length : Int) > 10))) rfl pv_move ?_
                            refine wo_meet 9 [(1, (.ptr (ix ids 0) g 0 0)), (7, (.int .i64 (j4 : Int))), (159, (.bool ((decide ((a5.Segments.length : Int) > 10)) || (decide ((a5.Names.length : Int) > 10)))))] ?_ fun hJ9 => wo_cases (decide ((a5.Segments.length : Int) > 10)) (fun hb19 => ?_) (fun hb19 => ?_)
                            · refine wo_nil ?_
                              refine wf_iteb rfl (fun hc5 => ?_) (fun hc5 => ?_)
                              · refine wr_seq ?_
                                refine wr_region ?_
                                refine wo_val (.bool false) rfl pv_assign ?_
                                refine wo_nil ?_
                                refine wx_each ?_
                                refine w_altr ?_
                                exact wr_ret (a := false) (vs := [(.bool false)]) Try.func9 hI rfl (.same _)
                              · refine wr_skip ?_
                                refine wr_inBlock ?_
                                refine wr_region ?_
                                refine wo_val (.int .i64 (j4 : Int)) rfl pv_move ?_
                                refine wo_val (.int .i64 (IntKind.wrap .i64 ((j4 : Int) + 1))) rfl (pv_bin rfl rfl rfl) ?_
                                refine wo_val (.int .i64 (IntKind.wrap .i64 ((j4 : Int) + 1))) rfl pv_assign ?_
                                refine wo_nil ?_
                                refine wr_is [(1, (.ptr (ix ids 0) g 0 0)), (7, (.int .i64 ((j4 + 1 : Nat) : Int)))] (.cons rfl (.cons (inc_ok (lt_of_get ha5) hlim9) .nil)) ?_
                                refine wb_each ?_
                                refine hW4 () _ _ ?_
                                exact ⟨rfl, rfl⟩
                            · refine wo_not (tj := 150) (b := true) rfl (congrArg AV.bool hb19) rfl rfl ?_
                              refine wo_not (tj := 150) (b := true) rfl (congrArg AV.bool hb19) rfl rfl ?_
                              refine wo_not (tj := 150) (b := true) rfl (congrArg AV.bool hb19) rfl rfl ?_
                              refine wo_not (tj := 150) (b := true) rfl (congrArg AV.bool hb19) rfl rfl ?_
                              refine wo_not (tj := 150) (b := true) rfl (congrArg AV.bool hb19) rfl rfl ?_
                              refine wo_not (tj := 150) (b := true) rfl (congrArg AV.bool hb19) rfl rfl ?_
                              refine wo_not (tj := 150) (b := true) rfl (congrArg AV.bool hb19) rfl rfl ?_
                              refine wo_not (tj := 150) (b := true) rfl (congrArg AV.bool hb19) rfl rfl ?_
                              refine wo_val (.bool true) rfl (pv_pick (t := true) (congrArg AV.bool hb19) rfl) ?_
                              exact wo_is [(1, (.ptr (ix ids 0) g 0 0)), (7, (.int .i64 (j4 : Int))), (159, (.bool ((decide ((a5.Segments.length : Int) > 10)) || (decide ((a5.Names.length : Int) > 10)))))] (.cons rfl (.cons rfl (.cons (or_t hb19) .nil))) hJ9
                            · refine wo_valg (tj := 150) (.ptr (ix ids 0) g 0 4) rfl (congrArg AV.bool hb19) rfl (pv_fa (fa_ptr (c := 0) (off := 4) (i := 4) ti31 rfl ti26 rfl)) ?_
                              refine wo_valg (tj := 150) (.sl 7 (List.map rRoute a.Routes)) rfl (congrArg AV.bool hb19) rfl (pv_load (ld_ptr hI rfl rfl rfl ti26 rfl)) ?_
                              refine wo_valg (tj := 150) (.int .i64 (j4 : Int)) rfl (congrArg AV.bool hb19) rfl pv_move ?_
                              refine wo_valg (tj := 150) (.cp (rRoute a5) 0) rfl (congrArg AV.bool hb19) rfl (pv_ixa (ixa_nat ti26 ti50 rfl ha5)) ?_
                              refine wo_valg (tj := 150) (.cp (rRoute a5) 5) rfl (congrArg AV.bool hb19) rfl (pv_fa (fa_cp (c := 0) (off := 5) (i := 5) ti50 rfl ti48 rfl)) ?_
                              refine wo_valg (tj := 150) (.sl 1 (List.map rS a5.Names)) rfl (congrArg AV.bool hb19) rfl (pv_load (ld_cp ti48 rfl)) ?_
                              refine wo_valg (tj := 150) (.int .i64 (a5.Names.length : Int)) rfl (congrArg AV.bool hb19) rfl (pv_len (len_sl ti48)) ?_
                              refine wo_valg (tj := 150) (.bool (decide ((a5.Names.length : Int) > 10))) rfl (congrArg AV.bool hb19) rfl (pv_bin rfl rfl rfl) ?_
                              refine wo_val (.bool (decide ((a5.Names.length : Int) > 10))) rfl (pv_pick (t := false) (congrArg AV.bool hb19) rfl) ?_
                              exact wo_is [(1, (.ptr (ix ids 0) g 0 0)), (7, (.int .i64 (j4 : Int))), (159, (.bool ((decide ((a5.Segments.length : Int) > 10)) || (decide ((a5.Names.length : Int) > 10)))))] (.cons rfl (.cons rfl (.cons (or_f hb19) .nil))) hJ9
                          · rintro _ fr h ⟨rfl, rfl⟩
                            refine wr_mod (alt_inl _ _ _) ?_
                            refine wr_seq ?_
                            refine wr_seq ?_
                            refine wr_region ?_
                            refine wo_val (.int .i64 (a.Routes.length : Int)) rfl pv_move ?_
                            refine wo_val (.ptr (ix ids 0) g 0 4) rfl (pv_fa (fa_ptr (c := 0) (off := 4) (i := 4) ti31 rfl ti26 rfl)) ?_
                            refine wo_val (.sl 7 (List.map rRoute a.Routes)) rfl (pv_load (ld_ptr hI rfl rfl rfl ti26 rfl)) ?_
                            refine wo_val (.int .i64 (a.Routes.length : Int)) rfl (pv_len (len_sl ti26)) ?_
                            refine wo_val (.bool (decide ((a.Routes.length : Int) < (a.Routes.length : Int)))) rfl (pv_bin rfl rfl rfl) ?_
                            refine wo_nil ?_
                            refine wr_condF rfl (Int.lt_irrefl _) ?_
                            refine wr_exit rfl ?_
                            refine wr_seq ?_
                            refine wr_seq ?_
                            refine wr_region ?_
                            refine wo_val (.int .i64 0) rfl pv_assign ?_
                            refine wo_nil ?_
                            refine wr_block ?_
                            refine wr_is [(1, (.ptr (ix ids 0) g 0 0)), (8, (.int .i64 0))] (.cons rfl (.cons rfl .nil)) ?_
                            refine wf_each' (P := Try.prog) a.Airports (fun _ a6 => fun _ => ref11_Few_b6 a6) ((alt (fun _ => .ok true) (fun r => .ok r)) : (Unit ⊕ Bool) → R Bool)
                              (fun j5 => fun _ => fun (fr : Nat → AV) (h : AHeap) => fr = frA [(1, (.ptr (ix ids 0) g 0 0)), (8, (.int .i64 (j5 : Int)))] ∧ h = hp h0 ids [(some (.rows g 8 [(rAirspace a)]))]) () ?_ ?_ ?_
                            · exact ⟨rfl, rfl⟩
                            · rintro j5 a6 ha6 W hW5 _ fr h ⟨rfl, rfl⟩
                              refine wr_mod (m' := ref11_Few_b6 a6) rfl (wr_mod (ref11_Few_b6.eq_1 _) ?_)
                              refine wr_seq ?_
                              refine wr_seq ?_
                              refine wr_region ?_
                              refine wo_val (.int .i64 (j5 : Int)) rfl pv_move ?_
                              refine wo_val (.ptr (ix ids 0) g 0 5) rfl (pv_fa (fa_ptr (c := 0) (off := 5) (i := 5) ti31 rfl ti27 rfl)) ?_
                              refine wo_val (.sl 2 (List.map rAirport a.Airports)) rfl (pv_load (ld_ptr hI rfl rfl rfl ti27 rfl)) ?_
                              refine wo_val (.int .i64 (a.Airports.length : Int)) rfl (pv_len (len_sl ti27)) ?_
                              refine wo_val (.bool (decide ((j5 : Int) < (a.Airports.length : Int)))) rfl (pv_bin rfl rfl rfl) ?_
                              refine wo_nil ?_
                              refine wr_lim (t := 162) (L := a.Airports) rfl fun hlim11 => ?_
                              refine wr_condT rfl (Int.ofNat_lt.2 (lt_of_get ha6)) ?_
                              refine wr_skip ?_
                              refine wr_seq ?_
                              refine wr_block ?_
                              refine wr_seq ?_
                              refine wr_region ?_
                              refine wo_val (.ptr (ix ids 0) g 0 5) rfl (pv_fa (fa_ptr (c := 0) (off := 5) (i := 5) ti31 rfl ti27 rfl)) ?_
                              refine wo_val (.sl 2 (List.map rAirport a.Airports)) rfl (pv_load (ld_ptr hI rfl rfl rfl ti27 rfl)) ?_
                              refine wo_val (.int .i64 (j5 : Int)) rfl pv_move ?_
                              refine wo_val (.cp (rAirport a6) 0) rfl (pv_ixa (ixa_nat ti27 ti69 rfl ha6)) ?_
                              refine wo_val (.cp (rAirport a6) 1) rfl (pv_fa (fa_cp (c := 0) (off := 1) (i := 1) ti69 rfl ti67 rfl)) ?_
                              refine wo_val (.sl 2 (List.map rMode a6.Modes)) rfl (pv_load (ld_cp ti67 rfl)) ?_
                              refine wo_val (.int .i64 (a6.Modes.length : Int)) rfl (pv_len (len_sl ti67)) ?_
                              refine wo_val (.bool (decide ((a6.Modes.length : Int) > 6))) rfl (pv_bin rfl rfl rfl) ?_
                              refine wo_nil ?_
                              refine wf_ite rfl (fun hc6 => ?_) (fun hc6 => ?_)
                              · refine wr_seq ?_
                                refine wr_region ?_
                                refine wo_val (.bool false) rfl pv_assign ?_
                                refine wo_nil ?_
                                refine wx_each ?_
                                refine w_altr ?_
                                exact wr_ret (a := false) (vs := [(.bool false)]) Try.func9 hI rfl (.same _)
                              · refine wr_skip ?_
                                refine wr_inBlock ?_
                                refine wr_region ?_
                                refine wo_val (.int .i64 (j5 : Int)) rfl pv_move ?_
                                refine wo_val (.int .i64 (IntKind.wrap .i64 ((j5 : Int) + 1))) rfl (pv_bin rfl rfl rfl) ?_
                                refine wo_val (.int .i64 (IntKind.wrap .i64 ((j5 : Int) + 1))) rfl pv_assign ?_
                                refine wo_nil ?_
                                refine wr_is [(1, (.ptr (ix ids 0) g 0 0)), (8, (.int .i64 ((j5 + 1 : Nat) : Int)))] (.cons rfl (.cons (inc_ok (lt_of_get ha6) hlim11) .nil)) ?_
                                refine wb_each ?_
                                refine hW5 () _ _ ?_
                                exact ⟨rfl, rfl⟩
                            · rintro _ fr h ⟨rfl, rfl⟩
                              refine wr_mod (alt_inl _ _ _) ?_
                              refine wr_seq ?_
                              refine wr_seq ?_
                              refine wr_region ?_
                              refine wo_val (.int .i64 (a.Airports.length : Int)) rfl pv_move ?_
                              refine wo_val (.ptr (ix ids 0) g 0 5) rfl (pv_fa (fa_ptr (c := 0) (off := 5) (i := 5) ti31 rfl ti27 rfl)) ?_
                              refine wo_val (.sl 2 (List.map rAirport a.Airports)) rfl (pv_load (ld_ptr hI rfl rfl rfl ti27 rfl)) ?_
                              refine wo_val (.int .i64 (a.Airports.length : Int)) rfl (pv_len (len_sl ti27)) ?_
                              refine wo_val (.bool (decide ((a.Airports.length : Int) < (a.Airports.length : Int)))) rfl (pv_bin rfl rfl rfl) ?_
                              refine wo_nil ?_
                              refine wr_condF rfl (Int.lt_irrefl _) ?_
                              refine wr_exit rfl ?_
                              refine wr_seq ?_
                              refine wr_region ?_
                              refine wo_val (.bool true) rfl pv_assign ?_
                              refine wo_nil ?_
                              exact wr_ret (a := true) (vs := [(.bool true)]) Try.func9 hI rfl (.same _)
              · refine wo_not (tj := 49) (b := true) rfl (congrArg AV.bool hb13) rfl rfl ?_
                refine wo_not (tj := 49) (b := true) rfl (congrArg AV.bool hb13) rfl rfl ?_
                refine wo_not (tj := 49) (b := true) rfl (congrArg AV.bool hb13) rfl rfl ?_
                refine wo_not (tj := 49) (b := true) rfl (congrArg AV.bool hb13) rfl rfl ?_
                refine wo_val (.bool true) rfl (pv_pick (t := true) (congrArg AV.bool hb13) rfl) ?_
                exact wo_is [(1, (.ptr (ix ids 0) g 0 0)), (54, (.bool ((((((((decide ((a.Volumes.length : Int) > 12)) || (decide ((a.Sectors.length : Int) > 12))) || (decide ((a.Configs.length : Int) > 8))) || (decide ((a.Segments.length : Int) > 16))) || (decide ((a.Routes.length : Int) > 10))) || (decide ((a.Airports.length : Int) > 8))) || (decide ((a.Classes.length : Int) > 6))) || (decide ((a.Rules.length : Int) > 12)))))] (.cons rfl (.cons (or_t hb13) .nil)) hJ6
              · refine wo_valg (tj := 49) (.ptr (ix ids 0) g 0 7) rfl (congrArg AV.bool hb13) rfl (pv_fa (fa_ptr (c := 0) (off := 7) (i := 7) ti31 rfl ti29 rfl)) ?_
                refine wo_valg (tj := 49) (.sl 8 (List.map rRule a.Rules)) rfl (congrArg AV.bool hb13) rfl (pv_load (ld_ptr hI rfl rfl rfl ti29 rfl)) ?_
                refine wo_valg (tj := 49) (.int .i64 (a.Rules.length : Int)) rfl (congrArg AV.bool hb13) rfl (pv_len (len_sl ti29)) ?_
                refine wo_valg (tj := 49) (.bool (decide ((a.Rules.length : Int) > 12))) rfl (congrArg AV.bool hb13) rfl (pv_bin rfl rfl rfl) ?_
                refine wo_val (.bool (decide ((a.Rules.length : Int) > 12))) rfl (pv_pick (t := false) (congrArg AV.bool hb13) rfl) ?_
                exact wo_is [(1, (.ptr (ix ids 0) g 0 0)), (54, (.bool ((((((((decide ((a.Volumes.length : Int) > 12)) || (decide ((a.Sectors.length : Int) > 12))) || (decide ((a.Configs.length : Int) > 8))) || (decide ((a.Segments.length : Int) > 16))) || (decide ((a.Routes.length : Int) > 10))) || (decide ((a.Airports.length : Int) > 8))) || (decide ((a.Classes.length : Int) > 6))) || (decide ((a.Rules.length : Int) > 12)))))] (.cons rfl (.cons (or_f hb13) .nil)) hJ6
            · refine wo_not (tj := 43) (b := true) rfl (congrArg AV.bool hb11) rfl rfl ?_
              refine wo_not (tj := 43) (b := true) rfl (congrArg AV.bool hb11) rfl rfl ?_
              refine wo_not (tj := 43) (b := true) rfl (congrArg AV.bool hb11) rfl rfl ?_
              refine wo_not (tj := 43) (b := true) rfl (congrArg AV.bool hb11) rfl rfl ?_
              refine wo_val (.bool true) rfl (pv_pick (t := true) (congrArg AV.bool hb11) rfl) ?_
              exact wo_is [(1, (.ptr (ix ids 0) g 0 0)), (48, (.bool (((((((decide ((a.Volumes.length : Int) > 12)) || (decide ((a.Sectors.length : Int) > 12))) || (decide ((a.Configs.length : Int) > 8))) || (decide ((a.Segments.length : Int) > 16))) || (decide ((a.Routes.length : Int) > 10))) || (decide ((a.Airports.length : Int) > 8))) || (decide ((a.Classes.length : Int) > 6)))))] (.cons rfl (.cons (or_t hb11) .nil)) hJ5
            · refine wo_valg (tj := 43) (.ptr (ix ids 0) g 0 6) rfl (congrArg AV.bool hb11) rfl (pv_fa (fa_ptr (c := 0) (off := 6) (i := 6) ti31 rfl ti28 rfl)) ?_
              refine wo_valg (tj := 43) (.sl 4 (List.map rClass a.Classes)) rfl (congrArg AV.bool hb11) rfl (pv_load (ld_ptr hI rfl rfl rfl ti28 rfl)) ?_
              refine wo_valg (tj := 43) (.int .i64 (a.Classes.length : Int)) rfl (congrArg AV.bool hb11) rfl (pv_len (len_sl ti28)) ?_
              refine wo_valg (tj := 43) (.bool (decide ((a.Classes.length : Int) > 6))) rfl (congrArg AV.bool hb11) rfl (pv_bin rfl rfl rfl) ?_
              refine wo_val (.bool (decide ((a.Classes.length : Int) > 6))) rfl (pv_pick (t := false) (congrArg AV.bool hb11) rfl) ?_
              exact wo_is [(1, (.ptr (ix ids 0) g 0 0)), (48, (.bool (((((((decide ((a.Volumes.length : Int) > 12)) || (decide ((a.Sectors.length : Int) > 12))) || (decide ((a.Configs.length : Int) > 8))) || (decide ((a.Segments.length : Int) > 16))) || (decide ((a.Routes.length : Int) > 10))) || (decide ((a.Airports.length : Int) > 8))) || (decide ((a.Classes.length : Int) > 6)))))] (.cons rfl (.cons (or_f hb11) .nil)) hJ5
          · refine wo_not (tj := 37) (b := true) rfl (congrArg AV.bool hb9) rfl rfl ?_
            refine wo_not (tj := 37) (b := true) rfl (congrArg AV.bool hb9) rfl rfl ?_
            refine wo_not (tj := 37) (b := true) rfl (congrArg AV.bool hb9) rfl rfl ?_
            refine wo_not (tj := 37) (b := true) rfl (congrArg AV.bool hb9) rfl rfl ?_
            refine wo_val (.bool true) rfl (pv_pick (t := true) (congrArg AV.bool hb9) rfl) ?_
            exact wo_is [(1, (.ptr (ix ids 0) g 0 0)), (42, (.bool ((((((decide ((a.Volumes.length : Int) > 12)) || (decide ((a.Sectors.length : Int) > 12))) || (decide ((a.Configs.length : Int) > 8))) || (decide ((a.Segments.length : Int) > 16))) || (decide ((a.Routes.length : Int) > 10))) || (decide ((a.Airports.length : Int) > 8)))))] (.cons rfl (.cons (or_t hb9) .nil)) hJ4
          · refine wo_valg (tj := 37) (.ptr (ix ids 0) g 0 5) rfl (congrArg AV.bool hb9) rfl (pv_fa (fa_ptr (c := 0) (off := 5) (i := 5) ti31 rfl ti27 rfl)) ?_
            refine wo_valg (tj := 37) (.sl 2 (List.map rAirport a.Airports)) rfl (congrArg AV.bool hb9) rfl (pv_load (ld_ptr hI rfl rfl rfl ti27 rfl)) ?_
            refine wo_valg (tj := 37) (.int .i64 (a.Airports.length : Int)) rfl (congrArg AV.bool hb9) rfl (pv_len (len_sl ti27)) ?_
            refine wo_valg (tj := 37) (.bool (decide ((a.Airports.length : Int) > 8))) rfl (congrArg AV.bool hb9) rfl (pv_bin rfl rfl rfl) ?_
            refine wo_val (.bool (decide ((a.Airports.length : Int) > 8))) rfl (pv_pick (t := false) (congrArg AV.bool hb9) rfl) ?_
            exact wo_is [(1, (.ptr (ix ids 0) g 0 0)), (42, (.bool ((((((decide ((a.Volumes.length : Int) > 12)) || (decide ((a.Sectors.length : Int) > 12))) || (decide ((a.Configs.length : Int) > 8))) || (decide ((a.Segments.length : Int) > 16))) || (decide ((a.Routes.length : Int) > 10))) || (decide ((a.Airports.length : Int) > 8)))))] (.cons rfl (.cons (or_f hb9) .nil)) hJ4
        · refine wo_not (tj := 31) (b := true) rfl (congrArg AV.bool hb7) rfl rfl ?_
          refine wo_not (tj := 31) (b := true) rfl (congrArg AV.bool hb7) rfl rfl ?_
          refine wo_not (tj := 31) (b := true) rfl (congrArg AV.bool hb7) rfl rfl ?_
          refine wo_not (tj := 31) (b := true) rfl (congrArg AV.bool hb7) rfl rfl ?_
          refine wo_val (.bool true) rfl (pv_pick (t := true) (congrArg AV.bool hb7) rfl) ?_
          exact wo_is [(1, (.ptr (ix ids 0) g 0 0)), (36, (.bool (((((decide ((a.Volumes.length : Int) > 12)) || (decide ((a.Sectors.length : Int) > 12))) || (decide ((a.Configs.length : Int) > 8))) || (decide ((a.Segments.length : Int) > 16))) || (decide ((a.Routes.length : Int) > 10)))))] (.cons rfl (.cons (or_t hb7) .nil)) hJ3
        · refine wo_valg (tj := 31) (.ptr (ix ids 0) g 0 4) rfl (congrArg AV.bool hb7) rfl (pv_fa (fa_ptr (c := 0) (off := 4) (i := 4) ti31 rfl ti26 rfl)) ?_
          refine wo_valg (tj := 31) (.sl 7 (List.map rRoute a.Routes)) rfl (congrArg AV.bool hb7) rfl (pv_load (ld_ptr hI rfl rfl rfl ti26 rfl)) ?_
          refine wo_valg (tj := 31) (.int .i64 (a.Routes.length : Int)) rfl (congrArg AV.bool hb7) rfl (pv_len (len_sl ti26)) ?_
          refine wo_valg (tj := 31) (.bool (decide ((a.Routes.length : Int) > 10))) rfl (congrArg AV.bool hb7) rfl (pv_bin rfl rfl rfl) ?_
          refine wo_val (.bool (decide ((a.Routes.length : Int) > 10))) rfl (pv_pick (t := false) (congrArg AV.bool hb7) rfl) ?_
          exact wo_is [(1, (.ptr (ix ids 0) g 0 0)), (36, (.bool (((((decide ((a.Volumes.length : Int) > 12)) || (decide ((a.Sectors.length : Int) > 12))) || (decide ((a.Configs.length : Int) > 8))) || (decide ((a.Segments.length : Int) > 16))) || (decide ((a.Routes.length : Int) > 10)))))] (.cons rfl (.cons (or_f hb7) .nil)) hJ3
      · refine wo_not (tj := 25) (b := true) rfl (congrArg AV.bool hb5) rfl rfl ?_
        refine wo_not (tj := 25) (b := true) rfl (congrArg AV.bool hb5) rfl rfl ?_
        refine wo_not (tj := 25) (b := true) rfl (congrArg AV.bool hb5) rfl rfl ?_
        refine wo_not (tj := 25) (b := true) rfl (congrArg AV.bool hb5) rfl rfl ?_
        refine wo_val (.bool true) rfl (pv_pick (t := true) (congrArg AV.bool hb5) rfl) ?_
        exact wo_is [(1, (.ptr (ix ids 0) g 0 0)), (30, (.bool ((((decide ((a.Volumes.length : Int) > 12)) || (decide ((a.Sectors.length : Int) > 12))) || (decide ((a.Configs.length : Int) > 8))) || (decide ((a.Segments.length : Int) > 16)))))] (.cons rfl (.cons (or_t hb5) .nil)) hJ2
      · refine wo_valg (tj := 25) (.ptr (ix ids 0) g 0 3) rfl (congrArg AV.bool hb5) rfl (pv_fa (fa_ptr (c := 0) (off := 3) (i := 3) ti31 rfl ti25 rfl)) ?_
        refine wo_valg (tj := 25) (.sl 5 (List.map rSegment a.Segments)) rfl (congrArg AV.bool hb5) rfl (pv_load (ld_ptr hI rfl rfl rfl ti25 rfl)) ?_
        refine wo_valg (tj := 25) (.int .i64 (a.Segments.length : Int)) rfl (congrArg AV.bool hb5) rfl (pv_len (len_sl ti25)) ?_
        refine wo_valg (tj := 25) (.bool (decide ((a.Segments.length : Int) > 16))) rfl (congrArg AV.bool hb5) rfl (pv_bin rfl rfl rfl) ?_
        refine wo_val (.bool (decide ((a.Segments.length : Int) > 16))) rfl (pv_pick (t := false) (congrArg AV.bool hb5) rfl) ?_
        exact wo_is [(1, (.ptr (ix ids 0) g 0 0)), (30, (.bool ((((decide ((a.Volumes.length : Int) > 12)) || (decide ((a.Sectors.length : Int) > 12))) || (decide ((a.Configs.length : Int) > 8))) || (decide ((a.Segments.length : Int) > 16)))))] (.cons rfl (.cons (or_f hb5) .nil)) hJ2
    · refine wo_not (tj := 19) (b := true) rfl (congrArg AV.bool hb3) rfl rfl ?_
      refine wo_not (tj := 19) (b := true) rfl (congrArg AV.bool hb3) rfl rfl ?_
      refine wo_not (tj := 19) (b := true) rfl (congrArg AV.bool hb3) rfl rfl ?_
      refine wo_not (tj := 19) (b := true) rfl (congrArg AV.bool hb3) rfl rfl ?_
      refine wo_val (.bool true) rfl (pv_pick (t := true) (congrArg AV.bool hb3) rfl) ?_
      exact wo_is [(1, (.ptr (ix ids 0) g 0 0)), (24, (.bool (((decide ((a.Volumes.length : Int) > 12)) || (decide ((a.Sectors.length : Int) > 12))) || (decide ((a.Configs.length : Int) > 8)))))] (.cons rfl (.cons (or_t hb3) .nil)) hJ1
    · refine wo_valg (tj := 19) (.ptr (ix ids 0) g 0 2) rfl (congrArg AV.bool hb3) rfl (pv_fa (fa_ptr (c := 0) (off := 2) (i := 2) ti31 rfl ti24 rfl)) ?_
      refine wo_valg (tj := 19) (.sl 3 (List.map rConfig a.Configs)) rfl (congrArg AV.bool hb3) rfl (pv_load (ld_ptr hI rfl rfl rfl ti24 rfl)) ?_
      refine wo_valg (tj := 19) (.int .i64 (a.Configs.length : Int)) rfl (congrArg AV.bool hb3) rfl (pv_len (len_sl ti24)) ?_
      refine wo_valg (tj := 19) (.bool (decide ((a.Configs.length : Int) > 8))) rfl (congrArg AV.bool hb3) rfl (pv_bin rfl rfl rfl) ?_
      refine wo_val (.bool (decide ((a.Configs.length : Int) > 8))) rfl (pv_pick (t := false) (congrArg AV.bool hb3) rfl) ?_
      exact wo_is [(1, (.ptr (ix ids 0) g 0 0)), (24, (.bool (((decide ((a.Volumes.length : Int) > 12)) || (decide ((a.Sectors.length : Int) > 12))) || (decide ((a.Configs.length : Int) > 8)))))] (.cons rfl (.cons (or_f hb3) .nil)) hJ1
  · refine wo_not (tj := 13) (b := true) rfl (congrArg AV.bool hb1) rfl rfl ?_
    refine wo_not (tj := 13) (b := true) rfl (congrArg AV.bool hb1) rfl rfl ?_
    refine wo_not (tj := 13) (b := true) rfl (congrArg AV.bool hb1) rfl rfl ?_
    refine wo_not (tj := 13) (b := true) rfl (congrArg AV.bool hb1) rfl rfl ?_
    refine wo_val (.bool true) rfl (pv_pick (t := true) (congrArg AV.bool hb1) rfl) ?_
    exact wo_is [(1, (.ptr (ix ids 0) g 0 0)), (18, (.bool ((decide ((a.Volumes.length : Int) > 12)) || (decide ((a.Sectors.length : Int) > 12)))))] (.cons rfl (.cons (or_t hb1) .nil)) hJ
  · refine wo_valg (tj := 13) (.ptr (ix ids 0) g 0 1) rfl (congrArg AV.bool hb1) rfl (pv_fa (fa_ptr (c := 0) (off := 1) (i := 1) ti31 rfl ti23 rfl)) ?_
    refine wo_valg (tj := 13) (.sl 5 (List.map rSector a.Sectors)) rfl (congrArg AV.bool hb1) rfl (pv_load (ld_ptr hI rfl rfl rfl ti23 rfl)) ?_
    refine wo_valg (tj := 13) (.int .i64 (a.Sectors.length : Int)) rfl (congrArg AV.bool hb1) rfl (pv_len (len_sl ti23)) ?_
    refine wo_valg (tj := 13) (.bool (decide ((a.Sectors.length : Int) > 12))) rfl (congrArg AV.bool hb1) rfl (pv_bin rfl rfl rfl) ?_
    refine wo_val (.bool (decide ((a.Sectors.length : Int) > 12))) rfl (pv_pick (t := false) (congrArg AV.bool hb1) rfl) ?_
    exact wo_is [(1, (.ptr (ix ids 0) g 0 0)), (18, (.bool ((decide ((a.Volumes.length : Int) > 12)) || (decide ((a.Sectors.length : Int) > 12)))))] (.cons rfl (.cons (or_f hb1) .nil)) hJ

theorem cp_ref11_known (a : Airspace) (n : Int) : CP Try.prog 28 [(.agg (rAirspace a)), (.int .i64 n)] (ref11_known a n) (fun (x : Bool) => (AV.bool x)) := by
  refine cp_intro (n := 35) 1 Try.func28 rfl (by decide) rfl rfl fun h0 ids hI => ?_
  refine wr_in (wr_mod (ref11_known.eq_1 _ _) ?_)
  refine wr_seq ?_
  refine wr_region ?_
  refine wo_box (v := (.agg (rAirspace a))) (j := 0) hI rfl rfl rfl rfl rfl rfl rfl fun g => ?_
  refine wo_val (.bool false) rfl pv_assign ?_
  refine wo_nil ?_
  refine wr_hp [(some (.rows g 8 [(rAirspace a)]))] rfl ?_
  refine wr_seq ?_
  refine wr_draw hmix [[], [0], [0, 1], [0, 1, 2], [0, 1, 2], [0, 1, 2, 4], [0, 1, 2, 4, 5], [0, 1, 2, 3, 4, 5, 6], [0, 1, 2, 3, 4, 5, 6, 7], [0, 1, 2, 3, 4, 5, 6, 7, 8], [0, 1, 2, 3, 4, 5, 6, 7, 8, 9], [0, 1, 2, 3, 4, 5, 6, 7, 8, 9, 10], [0, 1, 2, 3, 4, 5, 6, 7, 8, 9], [0, 1, 2, 3, 4, 5, 6, 7, 8, 9, 10, 11, 12], [0, 1, 2, 3, 4, 5, 6, 7, 8, 9, 10, 11, 12, 13], [0, 1, 2, 3, 4, 5, 6, 7, 8, 9, 10, 11, 12, 13, 14], [0, 1, 2, 3, 4, 5, 6, 7, 8, 9, 10, 11, 12, 13, 14, 15], [0, 1, 2, 3, 4, 5, 6, 7, 8, 9, 10, 11, 12, 13, 14, 15, 16], [0, 1, 2, 3, 4, 5, 6, 7, 8, 9, 10, 11, 12, 13, 14, 15, 16, 17], [0, 1, 2, 3, 4, 5, 6, 7, 8, 9, 10, 11, 12, 13, 14, 15, 16, 17, 18], [0, 1, 2, 3, 4, 5, 6, 7, 8, 9, 10, 11, 12, 13, 14, 15, 16, 17, 18, 19], [0, 1, 2, 3, 4, 5, 6, 7, 8, 9, 10, 11, 12, 13, 14, 15, 16, 17, 18], [0, 1, 2, 3, 4, 5, 6, 7, 8, 9, 10, 11, 12, 13, 14, 15, 16, 17, 18, 19, 20, 21], [0, 1, 2, 3, 4, 5, 6, 7, 8, 9, 10, 11, 12, 13, 14, 15, 16, 17, 18, 19, 20, 21, 22], [0, 1, 2, 3, 4, 5, 6, 7, 8, 9, 10, 11, 12, 13, 14, 15, 16, 17, 18, 19, 20, 21, 22, 23], [0, 1, 2, 3, 4, 5, 6, 7, 8, 9, 10, 11, 12, 13, 14, 15, 16, 17, 18], [0, 1, 2, 3, 4, 5, 6, 7, 8, 9, 10, 11, 12, 13, 14, 15, 16, 17, 18, 25], [0, 1, 2, 3, 4, 5, 6, 7, 8, 9, 10, 11, 12, 13, 14, 15, 16, 17, 18, 25, 26], [0, 1, 2, 3, 4, 5, 6, 7, 8, 9, 10, 11, 12, 13, 14, 15, 16, 17, 18, 19, 20, 21, 22, 23, 24, 25, 26, 27], [0, 1, 2, 3, 4, 5, 6, 7, 8, 9, 10, 11, 12, 13, 14, 15, 16, 17, 18, 19, 20, 21, 22, 23, 24, 25, 26, 27, 28], [0, 1, 2, 3, 4, 5, 6, 7, 8, 9, 10, 11, 12, 13, 14, 15, 16, 17, 18, 18, 19, 20, 21, 22, 23, 24, 25, 26, 27, 28, 29, 29]] [(false, 0), (false, 1), (false, 2), (false, 3), (false, 4), (false, 5), (false, 6), (false, 7), (false, 8), (false, 9), (false, 10), (false, 11), (false, 12), (false, 13), (false, 14), (false, 15), (false, 16), (false, 17), (false, 18), (false, 19), (false, 20), (false, 21), (false, 22), (false, 23), (false, 24), (false, 25), (false, 26), (false, 27), (false, 28), (false, 29), (false, 30)] (by kernel_rfl) ?_
  refine wp_val (.int .i64 n) rfl rfl pv_move ?_
  refine wp_val (.bool (decide (n ≥ 0))) rfl rfl (pv_bin rfl rfl rfl) ?_
  refine wp_val (.bool (decide (n ≥ 0))) rfl rfl pv_move ?_
  refine op_iteb (fun hb => ?_) (fun hb => ?_)
  · refine wp_valg (tj := 7) (.int .i64 n) rfl rfl (congrArg AV.bool hb) rfl pv_move ?_
    refine wp_valg (tj := 7) (.ptr (ix ids 0) g 0 3) rfl rfl (congrArg AV.bool hb) rfl (pv_fa (fa_ptr (c := 0) (off := 3) (i := 3) ti31 rfl ti25 rfl)) ?_
    refine wp_valg (tj := 7) (.sl 5 (List.map rSegment a.Segments)) rfl rfl (congrArg AV.bool hb) rfl (pv_load (ld_ptr hI rfl rfl rfl ti25 rfl)) ?_
    refine wp_valg (tj := 7) (.int .i64 (a.Segments.length : Int)) rfl rfl (congrArg AV.bool hb) rfl (pv_len (len_sl ti25)) ?_
    refine wp_valg (tj := 7) (.bool (decide (n < (a.Segments.length : Int)))) rfl rfl (congrArg AV.bool hb) rfl (pv_bin rfl rfl rfl) ?_
    refine wp_val (.bool (decide (n < (a.Segments.length : Int)))) rfl rfl (pv_pick (t := true) (congrArg AV.bool hb) rfl) ?_
    refine wp_val (.bool (decide (n < (a.Segments.length : Int)))) rfl rfl pv_move ?_
    refine op_iteb (fun hb1 => ?_) (fun hb1 => ?_)
    · refine wp_valg (tj := 14) (.ptr (ix ids 0) g 0 3) rfl rfl (congrArg AV.bool hb1) rfl (pv_fa (fa_ptr (c := 0) (off := 3) (i := 3) ti31 rfl ti25 rfl)) ?_
      refine wp_valg (tj := 14) (.sl 5 (List.map rSegment a.Segments)) rfl rfl (congrArg AV.bool hb1) rfl (pv_load (ld_ptr hI rfl rfl rfl ti25 rfl)) ?_
      refine wp_valg (tj := 14) (.int .i64 n) rfl rfl (congrArg AV.bool hb1) rfl pv_move ?_
      refine op_idx fun a1 hz hx1 => ?_
      refine wp_valg (tj := 14) (.cp (rSegment a1) 0) rfl rfl (congrArg AV.bool hb1) rfl (pv_ixa (ixa_sl ti25 ti59 rfl hz hx1)) ?_
      refine wp_valg (tj := 14) (.cp (rSegment a1) 2) rfl rfl (congrArg AV.bool hb1) rfl (pv_fa (fa_cp (c := 0) (off := 2) (i := 2) ti59 rfl ti3 rfl)) ?_
      refine wp_valg (tj := 14) (.int .i64 a1.Volume) rfl rfl (congrArg AV.bool hb1) rfl (pv_load (ld_cp ti3 rfl)) ?_
      refine wp_valg (tj := 14) (.bool (decide (a1.Volume ≥ 0))) rfl rfl (congrArg AV.bool hb1) rfl (pv_bin rfl rfl rfl) ?_
      refine wp_val (.bool (decide (a1.Volume ≥ 0))) rfl rfl (pv_pick (t := true) (congrArg AV.bool hb1) rfl) ?_
      refine wp_val (.bool (decide (a1.Volume ≥ 0))) rfl rfl pv_move ?_
      refine op_iteb (fun hb2 => ?_) (fun hb2 => ?_)
      · refine wp_valg (tj := 23) (.ptr (ix ids 0) g 0 3) rfl rfl (congrArg AV.bool hb2) rfl (pv_fa (fa_ptr (c := 0) (off := 3) (i := 3) ti31 rfl ti25 rfl)) ?_
        refine wp_valg (tj := 23) (.sl 5 (List.map rSegment a.Segments)) rfl rfl (congrArg AV.bool hb2) rfl (pv_load (ld_ptr hI rfl rfl rfl ti25 rfl)) ?_
        refine wp_valg (tj := 23) (.int .i64 n) rfl rfl (congrArg AV.bool hb2) rfl pv_move ?_
        refine wp_valg (tj := 23) (.cp (rSegment a1) 0) rfl rfl (congrArg AV.bool hb2) rfl (pv_ixa (ixa_sl ti25 ti59 rfl hz hx1)) ?_
        refine wp_valg (tj := 23) (.cp (rSegment a1) 2) rfl rfl (congrArg AV.bool hb2) rfl (pv_fa (fa_cp (c := 0) (off := 2) (i := 2) ti59 rfl ti3 rfl)) ?_
        refine wp_valg (tj := 23) (.int .i64 a1.Volume) rfl rfl (congrArg AV.bool hb2) rfl (pv_load (ld_cp ti3 rfl)) ?_
        refine wp_valg (tj := 23) (.ptr (ix ids 0) g 0 0) rfl rfl (congrArg AV.bool hb2) rfl (pv_fa (fa_ptr (c := 0) (off := 0) (i := 0) ti31 rfl ti22 rfl)) ?_
        refine wp_valg (tj := 23) (.sl 2 (List.map rVolume a.Volumes)) rfl rfl (congrArg AV.bool hb2) rfl (pv_load (ld_ptr hI rfl rfl rfl ti22 rfl)) ?_
        refine wp_valg (tj := 23) (.int .i64 (a.Volumes.length : Int)) rfl rfl (congrArg AV.bool hb2) rfl (pv_len (len_sl ti22)) ?_
        refine wp_valg (tj := 23) (.bool (decide (a1.Volume < (a.Volumes.length : Int)))) rfl rfl (congrArg AV.bool hb2) rfl (pv_bin rfl rfl rfl) ?_
        refine wp_val (.bool (decide (a1.Volume < (a.Volumes.length : Int)))) rfl rfl (pv_pick (t := true) (congrArg AV.bool hb2) rfl) ?_
        refine wp_val (.bool (decide (a1.Volume < (a.Volumes.length : Int)))) rfl rfl pv_assign ?_
        refine wp_nil ?_
        exact wr_ret (a := (decide (a1.Volume < (a.Volumes.length : Int)))) (vs := [(.bool (decide (a1.Volume < (a.Volumes.length : Int))))]) Try.func28 hI rfl (.same _)
      · refine wp_not (tj := 23) (b := false) rfl rfl (congrArg AV.bool hb2) rfl rfl ?_
        refine wp_not (tj := 23) (b := false) rfl rfl (congrArg AV.bool hb2) rfl rfl ?_
        refine wp_not (tj := 23) (b := false) rfl rfl (congrArg AV.bool hb2) rfl rfl ?_
        refine wp_not (tj := 23) (b := false) rfl rfl (congrArg AV.bool hb2) rfl rfl ?_
        refine wp_not (tj := 23) (b := false) rfl rfl (congrArg AV.bool hb2) rfl rfl ?_
        refine wp_not (tj := 23) (b := false) rfl rfl (congrArg AV.bool hb2) rfl rfl ?_
        refine wp_not (tj := 23) (b := false) rfl rfl (congrArg AV.bool hb2) rfl rfl ?_
        refine wp_not (tj := 23) (b := false) rfl rfl (congrArg AV.bool hb2) rfl rfl ?_
        refine wp_not (tj := 23) (b := false) rfl rfl (congrArg AV.bool hb2) rfl rfl ?_
        refine wp_not (tj := 23) (b := false) rfl rfl (congrArg AV.bool hb2) rfl rfl ?_
        refine wp_val (.bool false) rfl rfl (pv_pick (t := false) (congrArg AV.bool hb2) rfl) ?_
        refine wp_val (.bool false) rfl rfl pv_assign ?_
        refine wp_nil ?_
        exact wr_ret (a := false) (vs := [(.bool false)]) Try.func28 hI rfl (.same _)
    · refine wp_not (tj := 14) (b := false) rfl rfl (congrArg AV.bool hb1) rfl rfl ?_
      refine wp_not (tj := 14) (b := false) rfl rfl (congrArg AV.bool hb1) rfl rfl ?_
      refine wp_not (tj := 14) (b := false) rfl rfl (congrArg AV.bool hb1) rfl rfl ?_
      refine wp_not (tj := 14) (b := false) rfl rfl (congrArg AV.bool hb1) rfl rfl ?_
      refine wp_not (tj := 14) (b := false) rfl rfl (congrArg AV.bool hb1) rfl rfl ?_
      refine wp_not (tj := 14) (b := false) rfl rfl (congrArg AV.bool hb1) rfl rfl ?_
      refine wp_not (tj := 14) (b := false) rfl rfl (congrArg AV.bool hb1) rfl rfl ?_
      refine wp_val (.bool false) rfl rfl (pv_pick (t := false) (congrArg AV.bool hb1) rfl) ?_
      refine wp_val (.bool false) rfl rfl pv_move ?_
      refine wp_not (tj := 23) (b := false) rfl rfl rfl rfl rfl ?_
      refine wp_not (tj := 23) (b := false) rfl rfl rfl rfl rfl ?_
      refine wp_not (tj := 23) (b := false) rfl rfl rfl rfl rfl ?_
      refine wp_not (tj := 23) (b := false) rfl rfl rfl rfl rfl ?_
      refine wp_not (tj := 23) (b := false) rfl rfl rfl rfl rfl ?_
      refine wp_not (tj := 23) (b := false) rfl rfl rfl rfl rfl ?_
      refine wp_not (tj := 23) (b := false) rfl rfl rfl rfl rfl ?_
      refine wp_not (tj := 23) (b := false) rfl rfl rfl rfl rfl ?_
      refine wp_not (tj := 23) (b := false) rfl rfl rfl rfl rfl ?_
      refine wp_not (tj := 23) (b := false) rfl rfl rfl rfl rfl ?_
      refine wp_val (.bool false) rfl rfl (pv_pick (t := false) rfl rfl) ?_
      refine wp_val (.bool false) rfl rfl pv_assign ?_
      refine wp_nil ?_
      exact wr_ret (a := false) (vs := [(.bool false)]) Try.func28 hI rfl (.same _)
  · refine wp_not (tj := 7) (b := false) rfl rfl (congrArg AV.bool hb) rfl rfl ?_
    refine wp_not (tj := 7) (b := false) rfl rfl (congrArg AV.bool hb) rfl rfl ?_
    refine wp_not (tj := 7) (b := false) rfl rfl (congrArg AV.bool hb) rfl rfl ?_
    refine wp_not (tj := 7) (b := false) rfl rfl (congrArg AV.bool hb) rfl rfl ?_
    refine wp_not (tj := 7) (b := false) rfl rfl (congrArg AV.bool hb) rfl rfl ?_
    refine wp_val (.bool false) rfl rfl (pv_pick (t := false) (congrArg AV.bool hb) rfl) ?_
    refine wp_val (.bool false) rfl rfl pv_move ?_
    refine wp_not (tj := 14) (b := false) rfl rfl rfl rfl rfl ?_
    refine wp_not (tj := 14) (b := false) rfl rfl rfl rfl rfl ?_
    refine wp_not (tj := 14) (b := false) rfl rfl rfl rfl rfl ?_
    refine wp_not (tj := 14) (b := false) rfl rfl rfl rfl rfl ?_
    refine wp_not (tj := 14) (b := false) rfl rfl rfl rfl rfl ?_
    refine wp_not (tj := 14) (b := false) rfl rfl rfl rfl rfl ?_
    refine wp_not (tj := 14) (b := false) rfl rfl rfl rfl rfl ?_
    refine wp_val (.bool false) rfl rfl (pv_pick (t := false) rfl rfl) ?_
    refine wp_val (.bool false) rfl rfl pv_move ?_
    refine wp_not (tj := 23) (b := false) rfl rfl rfl rfl rfl ?_
    refine wp_not (tj := 23) (b := false) rfl rfl rfl rfl rfl ?_
    refine wp_not (tj := 23) (b := false) rfl rfl rfl rfl rfl ?_
    refine wp_not (tj := 23) (b := false) rfl rfl rfl rfl rfl ?_
    refine wp_not (tj := 23) (b := false) rfl rfl rfl rfl rfl ?_
    refine wp_not (tj := 23) (b := false) rfl rfl rfl rfl rfl ?_
    refine wp_not (tj := 23) (b := false) rfl rfl rfl rfl rfl ?_
    refine wp_not (tj := 23) (b := false) rfl rfl rfl rfl rfl ?_
    refine wp_not (tj := 23) (b := false) rfl rfl rfl rfl rfl ?_
    refine wp_not (tj := 23) (b := false) rfl rfl rfl rfl rfl ?_
    refine wp_val (.bool false) rfl rfl (pv_pick (t := false) rfl rfl) ?_
    refine wp_val (.bool false) rfl rfl pv_assign ?_
    refine wp_nil ?_
    exact wr_ret (a := false) (vs := [(.bool false)]) Try.func28 hI rfl (.same _)

theorem cpo_ref05_Minutes (l : (List Span)) : CPO Try.prog 39 [(.sl 2 (List.map rSpan l))] (ref05_Minutes l) 1 rB := by
  refine cpo_intro (n := 33) 0 Try.func39 rfl (by decide) rfl rfl fun h0 ids hI => ?_
  refine wr_in (wr_mod (ref05_Minutes.eq_1 _) ?_)
  refine wr_seq ?_
  refine wr_region ?_
  refine wo_val .emp rfl pv_assign ?_
  refine wo_nil ?_
  refine wr_seq ?_
  refine wr_region ?_
  refine of_need fun hl => ?_
  refine wo_make (y := (false : Bool)) (e := rB) (st := 1) (j := 0) hI rfl rfl rfl rfl ti82 ti4 rfl rfl hl.1 hl.2.1 hl.2.2 rfl rfl rfl rfl rfl fun v g vH => ?_
  refine wo_val v rfl pv_assign ?_
  refine wo_nil ?_
  refine wr_hp [(ownO v g 1 (List.map rB (List.replicate (Int.toNat 1440) false)))] rfl ?_
  refine wr_seq ?_
  refine wr_seq ?_
  refine wr_region ?_
  refine wo_val (.int .i64 0) rfl pv_assign ?_
  refine wo_nil ?_
  refine wr_block ?_
  refine wr_is [(0, (.sl 2 (List.map rSpan l))), (3, v), (4, (.int .i64 0))] (.cons rfl (.cons rfl (.cons rfl .nil))) ?_
  refine wf_eachS' (P := Try.prog) l (fun _ a => fun out => ref05_Minutes_b2 a out) (((fun out => .ok out)) : (List Bool) → R (List Bool))
    (fun j => fun out => fun (fr : Nat → AV) (h : AHeap) => ∃ (v1 : AV), ∃ (g1 : Nat), OwnV v1 (ix ids 0) g1 out.length ∧ fr = frA [(0, (.sl 2 (List.map rSpan l))), (3, v1), (4, (.int .i64 (j : Int)))] ∧ h = hp h0 ids [(ownO v1 g1 1 (List.map rB out))]) (List.replicate (Int.toNat 1440) false) ?_ ?_ ?_
  · exact ⟨v, g, vH, rfl, rfl⟩
  · rintro j a ha W hW out fr h ⟨v1, g1, vH1, rfl, rfl⟩
    refine wr_mod (m' := ref05_Minutes_b2 a out) rfl (wr_mod (ref05_Minutes_b2.eq_1 _ _) ?_)
    refine wr_seq ?_
    refine wr_seq ?_
    refine wr_region ?_
    refine wo_val (.int .i64 (j : Int)) rfl pv_move ?_
    refine wo_val (.sl 2 (List.map rSpan l)) rfl pv_move ?_
    refine wo_val (.int .i64 (l.length : Int)) rfl (pv_len (len_sl ti35)) ?_
    refine wo_val (.bool (decide ((j : Int) < (l.length : Int)))) rfl (pv_bin rfl rfl rfl) ?_
    refine wo_nil ?_
    refine wr_lim (t := 0) (L := l) rfl fun hlim => ?_
    refine wr_condT rfl (Int.ofNat_lt.2 (lt_of_get ha)) ?_
    refine wr_skip ?_
    refine wr_seq ?_
    refine wr_block ?_
    refine wr_seq ?_
    refine wr_region ?_
    refine wo_val (.sl 2 (List.map rSpan l)) rfl pv_move ?_
    refine wo_val (.int .i64 (j : Int)) rfl pv_move ?_
    refine wo_val (.cp (rSpan a) 0) rfl (pv_ixa (ixa_nat ti35 ti55 rfl ha)) ?_
    refine wo_val (.cp (rSpan a) 0) rfl (pv_fa (fa_cp (c := 0) (off := 0) (i := 0) ti55 rfl ti3 rfl)) ?_
    refine wo_val (.int .i64 a.From) rfl (pv_load (ld_cp ti3 rfl)) ?_
    refine wo_val (.int .i64 (if 0 > a.From then 0 else a.From)) rfl (pv_max rfl) ?_
    refine wo_val (.int .i64 (if 0 > a.From then 0 else a.From)) rfl pv_assign ?_
    refine wo_nil ?_
    refine wf_join (fun out2 => ref05_Minutes_j1 out2) (fun out2 => fun (fr : Nat → AV) (h : AHeap) => ∃ (v3 : AV), ∃ (g3 : Nat), OwnV v3 (ix ids 0) g3 out2.length ∧ fr = frA [(0, (.sl 2 (List.map rSpan l))), (3, v3), (4, (.int .i64 (j : Int)))] ∧ h = hp h0 ids [(ownO v3 g3 1 (List.map rB out2))]) ?_ fun hJ => ?_
    · rintro out2 fr h ⟨v3, g3, vH4, rfl, rfl⟩
      refine wr_mod (ref05_Minutes_j1.eq_1 _) ?_
      refine wr_inBlock ?_
      refine wr_region ?_
      refine wo_val (.int .i64 (j : Int)) rfl pv_move ?_
      refine wo_val (.int .i64 (IntKind.wrap .i64 ((j : Int) + 1))) rfl (pv_bin rfl rfl rfl) ?_
      refine wo_val (.int .i64 (IntKind.wrap .i64 ((j : Int) + 1))) rfl pv_assign ?_
      refine wo_nil ?_
      refine wr_is [(0, (.sl 2 (List.map rSpan l))), (3, v3), (4, (.int .i64 ((j + 1 : Nat) : Int)))] (.cons rfl (.cons rfl (.cons (inc_ok (lt_of_get ha) hlim) .nil))) ?_
      refine wb_S ?_
      refine hW out2 _ _ ?_
      exact ⟨v3, g3, vH4, rfl, rfl⟩
    · refine wr_block ?_
      refine wr_is [(0, (.sl 2 (List.map rSpan l))), (3, v1), (4, (.int .i64 (j : Int))), (5, (.int .i64 (if 0 > a.From then 0 else a.From)))] (.cons rfl (.cons rfl (.cons rfl (.cons rfl .nil)))) ?_
      refine wf_loop' (P := Try.prog) (un2 fun m out1 => ref05_Minutes_b1 a m out1) ((fun out2 => ref05_Minutes_j1 out2) : (List Bool) → R (List Bool))
        (un2 fun m out1 => fun (fr : Nat → AV) (h : AHeap) => ∃ (v2 : AV), ∃ (g2 : Nat), OwnV v2 (ix ids 0) g2 out1.length ∧ fr = frA [(0, (.sl 2 (List.map rSpan l))), (3, v2), (4, (.int .i64 (j : Int))), (5, (.int .i64 m))] ∧ h = hp h0 ids [(ownO v2 g2 1 (List.map rB out1))]) ((if 0 > a.From then 0 else a.From), out) ?_ ?_
      · exact ⟨v1, g1, vH1, rfl, rfl⟩
      · rintro vW1 hW1 ⟨m, out1⟩ fr h ⟨v2, g2, vH2, rfl, rfl⟩
        refine wr_mod (m' := ref05_Minutes_b1 a m out1) rfl (wr_mod (ref05_Minutes_b1.eq_1 _ _ _) ?_)
        refine wr_seq ?_
        refine wr_seq ?_
        refine wr_region ?_
        refine wo_val (.int .i64 m) rfl pv_move ?_
        refine wo_val (.sl 2 (List.map rSpan l)) rfl pv_move ?_
        refine wo_val (.int .i64 (j : Int)) rfl pv_move ?_
        refine wo_val (.cp (rSpan a) 0) rfl (pv_ixa (ixa_nat ti35 ti55 rfl ha)) ?_
        refine wo_val (.cp (rSpan a) 1) rfl (pv_fa (fa_cp (c := 0) (off := 1) (i := 1) ti55 rfl ti3 rfl)) ?_
        refine wo_val (.int .i64 a.To) rfl (pv_load (ld_cp ti3 rfl)) ?_
        refine wo_val (.int .i64 (if 1440 < a.To then 1440 else a.To)) rfl (pv_min rfl) ?_
        refine wo_val (.bool (decide (m < (if 1440 < a.To then 1440 else a.To)))) rfl (pv_bin rfl rfl rfl) ?_
        refine wo_nil ?_
        refine wf_ite rfl (fun hc => ?_) (fun hc => ?_)
        · refine wr_skip ?_
          refine wr_seq ?_
          refine wr_block ?_
          refine wr_region ?_
          refine wo_val v2 rfl pv_move ?_
          refine wo_val (.int .i64 m) rfl pv_move ?_
          refine of_idx fun a1 hz hx1 => ?_
          refine wo_val (.ptr (ix ids 0) g2 m.toNat 0) rfl (pv_ixa (ixa_own hI rfl vH2 rfl ti82 ti4 rfl hz hx1)) ?_
          refine wo_store (st_own (y := true) hI rfl rfl vH2 rfl hx1 ti4 rfl rfl rfl rfl rfl rfl) ?_
          have vH3 := OwnV.set (i := m.toNat) (y := true) vH2
          have hx2 := List.getElem?_set_self (a := true) (lt_of_get hx1)
          refine wo_nil ?_
          refine wr_hp [(ownO v2 g2 1 (List.map rB (out1.set m.toNat true)))] rfl ?_
          refine wr_inBlock ?_
          refine wr_region ?_
          refine wo_val (.int .i64 m) rfl pv_move ?_
          refine wo_val (.int .i64 (IntKind.wrap .i64 (m + 1))) rfl (pv_bin rfl rfl rfl) ?_
          refine wo_val (.int .i64 (IntKind.wrap .i64 (m + 1))) rfl pv_assign ?_
          refine wo_nil ?_
          refine wr_is [(0, (.sl 2 (List.map rSpan l))), (3, v2), (4, (.int .i64 (j : Int))), (5, (.int .i64 (IntKind.wrap .i64 (m + 1))))] (.cons rfl (.cons rfl (.cons rfl (.cons rfl .nil)))) ?_
          refine wb_loop ?_
          refine hW1 ((IntKind.wrap .i64 (m + 1)), (out1.set m.toNat true)) _ _ ?_
          exact ⟨v2, g2, vH3, rfl, rfl⟩
        · refine wr_exit rfl ?_
          refine wx_loop ?_
          refine wr_is [(0, (.sl 2 (List.map rSpan l))), (3, v2), (4, (.int .i64 (j : Int)))] (.cons rfl (.cons rfl (.cons rfl .nil))) ?_
          refine hJ out1 _ _ ?_
          exact ⟨v2, g2, vH2, rfl, rfl⟩
  · rintro out fr h ⟨v1, g1, vH1, rfl, rfl⟩
    refine wr_seq ?_
    refine wr_seq ?_
    refine wr_region ?_
    refine wo_val (.int .i64 (l.length : Int)) rfl pv_move ?_
    refine wo_val (.sl 2 (List.map rSpan l)) rfl pv_move ?_
    refine wo_val (.int .i64 (l.length : Int)) rfl (pv_len (len_sl ti35)) ?_
    refine wo_val (.bool (decide ((l.length : Int) < (l.length : Int)))) rfl (pv_bin rfl rfl rfl) ?_
    refine wo_nil ?_
    refine wr_condF rfl (Int.lt_irrefl _) ?_
    refine wr_exit rfl ?_
    refine wr_seq ?_
    refine wr_region ?_
    refine wo_val v1 rfl pv_move ?_
    refine wo_val v1 rfl pv_assign ?_
    refine wo_nil ?_
    exact wr_retO (a := out) (v := v1) (g := g1) Try.func39 hI rfl rfl vH1 rfl
theorem cp_ref05_Minutes (l : (List Span)) : CP Try.prog 39 [(.sl 2 (List.map rSpan l))] (ref05_Minutes l) (fun (x : (List Bool)) => (AV.sl 1 (List.map rB x))) := (cpo_ref05_Minutes l).cp (fun x => ok_B x)

theorem cpo_ref05_Spans (vis : (List Bool)) : CPO Try.prog 40 [(.sl 1 (List.map rB vis))] (ref05_Spans vis) 2 rSpan := by
  refine cpo_intro (n := 47) 0 Try.func40 rfl (by decide) rfl rfl fun h0 ids hI => ?_
  refine wr_in (wr_mod (ref05_Spans.eq_1 _) ?_)
  refine wr_seq ?_
  refine wr_region ?_
  refine wo_val .emp rfl pv_assign ?_
  refine wo_nil ?_
  refine wr_seq ?_
  refine wr_region ?_
  refine wo_bs0 rfl ti35 ti55 ?_
  refine wo_val .emp rfl pv_assign ?_
  refine wo_nil ?_
  refine wr_seq ?_
  refine wr_seq ?_
  refine wr_region ?_
  refine wo_val (.int .i64 0) rfl pv_assign ?_
  refine wo_nil ?_
  refine wr_block ?_
  refine wr_is [(0, (.sl 1 (List.map rB vis))), (3, .emp), (4, (.int .i64 0))] (.cons rfl (.cons rfl (.cons rfl .nil))) ?_
  refine wf_eachS' (P := Try.prog) vis (fun j a => fun out => ref05_Spans_b1 j a out) (((fun out => .ok out)) : (List Span) → R (List Span))
    (fun j => fun out => fun (fr : Nat → AV) (h : AHeap) => ∃ (v : AV), ∃ (g : Nat), OwnV v (ix ids 0) g out.length ∧ fr = frA [(0, (.sl 1 (List.map rB vis))), (3, v), (4, (.int .i64 (j : Int)))] ∧ h = hp h0 ids [(ownO v g 2 (List.map rSpan out))]) [] ?_ ?_ ?_
  · exact ⟨.emp, 0, .nil, rfl, rfl⟩
  · rintro j a ha W hW out fr h ⟨v, g, vH, rfl, rfl⟩
    refine wr_mod (m' := ref05_Spans_b1 j a out) rfl (wr_mod (ref05_Spans_b1.eq_1 _ _ _) ?_)
    refine wr_seq ?_
    refine wr_seq ?_
    refine wr_region ?_
    refine wo_val (.int .i64 (j : Int)) rfl pv_move ?_
    refine wo_val (.sl 1 (List.map rB vis)) rfl pv_move ?_
    refine wo_val (.int .i64 (vis.length : Int)) rfl (pv_len (len_sl ti82)) ?_
    refine wo_val (.bool (decide ((j : Int) < (vis.length : Int)))) rfl (pv_bin rfl rfl rfl) ?_
    refine wo_nil ?_
    refine wr_lim (t := 0) (L := vis) rfl fun hlim => ?_
    refine wr_condT rfl (Int.ofNat_lt.2 (lt_of_get ha)) ?_
    refine wr_skip ?_
    refine wr_seq ?_
    refine wr_block ?_
    refine wr_seq ?_
    refine wr_seq ?_
    refine wr_region ?_
    refine wo_val (.sl 1 (List.map rB vis)) rfl pv_move ?_
    refine wo_val (.int .i64 (j : Int)) rfl pv_move ?_
    refine wo_val (.cp [(.bool a)] 0) rfl (pv_ixa (ixa_nat ti82 ti4 rfl ha)) ?_
    refine wo_val (.bool a) rfl (pv_load (ld_cp ti4 rfl)) ?_
    refine wo_val (.bool (!a)) rfl (pv_un rfl) ?_
    refine wo_nil ?_
    refine wf_itebn rfl (fun hc => ?_) (fun hc => ?_)
    · refine wr_skip ?_
      refine wr_seq ?_
      refine wr_region ?_
      refine wo_val v rfl pv_move ?_
      refine wo_val (.int .i64 (out.length : Int)) rfl (pv_len (OwnV.len vH ti35)) ?_
      refine wo_val (.int .i64 (out.length : Int)) rfl pv_assign ?_
      refine wo_nil ?_
      refine wr_seq ?_
      refine wr_region ?_
      refine wo_val (.int .i64 (out.length : Int)) rfl pv_move ?_
      refine wo_val (.bool (decide ((out.length : Int) > 0))) rfl (pv_bin rfl rfl rfl) ?_
      refine wo_val (.bool (decide ((out.length : Int) > 0))) rfl pv_move ?_
      refine wo_join 9 ((fun (b : Bool) => if b then
((idx out (IntKind.wrap .i64 ((out.length : Int) - 1))).bind fun a2 =>
  .ok (out.set (IntKind.wrap .i64 ((out.length : Int) - 1)).toNat { a2 with To := (IntKind.wrap .i64 ((j : Int) + 1)) }))
else
(if (out.length + [({ From := (j : Int), To := (IntKind.wrap .i64 ((j : Int) + 1)) } : Span)].length) * 16 ≤ LIM then
  .ok (out ++ [({ From := (j : Int), To := (IntKind.wrap .i64 ((j : Int) + 1)) } : Span)]) else .bad)) : Bool → R (List Span)) (fun (b : Bool) (fr : Nat → AV) (h : AHeap) => fr = frA [(0, (.sl 1 (List.map rB vis))), (3, v), (4, (.int .i64 (j : Int))), (5, (.int .i64 (out.length : Int))), (31, (.bool b))] ∧ h = hp h0 ids [(ownO v g 2 (List.map rSpan out))]) ?_ fun hJ => of_if1 (fun hb1 => ?_) (fun hb1 => ?_)
      · rintro b fr h ⟨rfl, rfl⟩
        refine wo_nil ?_
        refine wf_iteb rfl (fun hc1 => ?_) (fun hc1 => ?_)
        · refine wr_region ?_
          refine wo_val v rfl pv_move ?_
          refine wo_val (.int .i64 (out.length : Int)) rfl pv_move ?_
          refine wo_val (.int .i64 (IntKind.wrap .i64 ((out.length : Int) - 1))) rfl (pv_bin rfl rfl rfl) ?_
          refine wo_val (.int .i64 (j : Int)) rfl pv_move ?_
          refine wo_val (.int .i64 (IntKind.wrap .i64 ((j : Int) + 1))) rfl (pv_bin rfl rfl rfl) ?_
          refine of_idx fun a2 hz1 hx2 => ?_
          refine wo_val (.ptr (ix ids 0) g (IntKind.wrap .i64 ((out.length : Int) - 1)).toNat 0) rfl (pv_ixa (ixa_own hI rfl vH rfl ti35 ti55 rfl hz1 hx2)) ?_
          refine wo_val (.ptr (ix ids 0) g (IntKind.wrap .i64 ((out.length : Int) - 1)).toNat 1) rfl (pv_fa (fa_ptr (c := 0) (off := 1) (i := 1) ti55 rfl ti3 rfl)) ?_
          refine wo_store (st_own (y := { a2 with To := (IntKind.wrap .i64 ((j : Int) + 1)) }) hI rfl rfl vH rfl hx2 ti3 rfl rfl rfl rfl rfl rfl) ?_
          have vH1 := OwnV.set (i := (IntKind.wrap .i64 ((out.length : Int) - 1)).toNat) (y := { a2 with To := (IntKind.wrap .i64 ((j : Int) + 1)) }) vH
          have hx3 := List.getElem?_set_self (a := { a2 with To := (IntKind.wrap .i64 ((j : Int) + 1)) }) (lt_of_get hx2)
          refine wo_nil ?_
          refine wr_hp [(ownO v g 2 (List.map rSpan (out.set (IntKind.wrap .i64 ((out.length : Int) - 1)).toNat { a2 with To := (IntKind.wrap .i64 ((j : Int) + 1)) })))] rfl ?_
          refine wr_inBlock ?_
          refine wr_region ?_
          refine wo_val (.int .i64 (j : Int)) rfl pv_move ?_
          refine wo_val (.int .i64 (IntKind.wrap .i64 ((j : Int) + 1))) rfl (pv_bin rfl rfl rfl) ?_
          refine wo_val (.int .i64 (IntKind.wrap .i64 ((j : Int) + 1))) rfl pv_assign ?_
          refine wo_nil ?_
          refine wr_is [(0, (.sl 1 (List.map rB vis))), (3, v), (4, (.int .i64 ((j + 1 : Nat) : Int)))] (.cons rfl (.cons rfl (.cons (inc_ok (lt_of_get ha) hlim) .nil))) ?_
          refine wb_S ?_
          refine hW (out.set (IntKind.wrap .i64 ((out.length : Int) - 1)).toNat { a2 with To := (IntKind.wrap .i64 ((j : Int) + 1)) }) _ _ ?_
          exact ⟨v, g, vH1, rfl, rfl⟩
        · refine wr_region ?_
          refine wo_val v rfl pv_move ?_
          refine wo_val (.int .i64 (j : Int)) rfl pv_move ?_
          refine wo_val (.int .i64 (j : Int)) rfl pv_move ?_
          refine wo_val (.int .i64 (IntKind.wrap .i64 ((j : Int) + 1))) rfl (pv_bin rfl rfl rfl) ?_
          refine wo_val (.agg [(.int .i64 (j : Int)), (.int .i64 (IntKind.wrap .i64 ((j : Int) + 1)))]) rfl (pv_build (bd_st ti55 pl55 rfl)) ?_
          refine wo_bsC (e := rSpan) (L := [({ From := (j : Int), To := (IntKind.wrap .i64 ((j : Int) + 1)) } : Span)]) (st := 2) (rows := [[(.int .i64 (j : Int)), (.int .i64 (IntKind.wrap .i64 ((j : Int) + 1)))]]) rfl ti35 ti55 rfl rfl rfl rfl rfl (.cons (.cons (.same _) (.cons (.same _) .nil)) .nil) (fun x => ok_Span x) rfl rfl ?_
          refine of_need fun hl => ?_
          refine wo_append (e := rSpan) (L := out) (L2 := [({ From := (j : Int), To := (IntKind.wrap .i64 ((j : Int) + 1)) } : Span)]) (v := v) (g := g) (st := 2) (j := 0) hI rfl rfl rfl rfl vH rfl (src_sl rfl) ti35 ti35 rfl ti55 rfl rfl rfl hl fun v1 g1 vH2 => ?_
          refine wo_val v1 rfl pv_assign ?_
          refine wo_nil ?_
          refine wr_hp [(ownO v1 g1 2 (List.map rSpan (out ++ [({ From := (j : Int), To := (IntKind.wrap .i64 ((j : Int) + 1)) } : Span)])))] rfl ?_
          refine wr_inBlock ?_
          refine wr_region ?_
          refine wo_val (.int .i64 (j : Int)) rfl pv_move ?_
          refine wo_val (.int .i64 (IntKind.wrap .i64 ((j : Int) + 1))) rfl (pv_bin rfl rfl rfl) ?_
          refine wo_val (.int .i64 (IntKind.wrap .i64 ((j : Int) + 1))) rfl pv_assign ?_
          refine wo_nil ?_
          refine wr_is [(0, (.sl 1 (List.map rB vis))), (3, v1), (4, (.int .i64 ((j + 1 : Nat) : Int)))] (.cons rfl (.cons rfl (.cons (inc_ok (lt_of_get ha) hlim) .nil))) ?_
          refine wb_S ?_
          refine hW (out ++ [({ From := (j : Int), To := (IntKind.wrap .i64 ((j : Int) + 1)) } : Span)]) _ _ ?_
          exact ⟨v1, g1, vH2, rfl, rfl⟩
      · refine wo_valg (tj := 22) v rfl (congrArg AV.bool hb1) rfl pv_move ?_
        refine wo_valg (tj := 22) (.int .i64 (out.length : Int)) rfl (congrArg AV.bool hb1) rfl pv_move ?_
        refine wo_valg (tj := 22) (.int .i64 (IntKind.wrap .i64 ((out.length : Int) - 1))) rfl (congrArg AV.bool hb1) rfl (pv_bin rfl rfl rfl) ?_
        refine of_idx fun a1 hz hx1 => ?_
        refine wo_valg (tj := 22) (.ptr (ix ids 0) g (IntKind.wrap .i64 ((out.length : Int) - 1)).toNat 0) rfl (congrArg AV.bool hb1) rfl (pv_ixa (ixa_own hI rfl vH rfl ti35 ti55 rfl hz hx1)) ?_
        refine wo_valg (tj := 22) (.ptr (ix ids 0) g (IntKind.wrap .i64 ((out.length : Int) - 1)).toNat 1) rfl (congrArg AV.bool hb1) rfl (pv_fa (fa_ptr (c := 0) (off := 1) (i := 1) ti55 rfl ti3 rfl)) ?_
        refine wo_valg (tj := 22) (.int .i64 a1.To) rfl (congrArg AV.bool hb1) rfl (pv_load (ld_own hI rfl vH rfl hx1 ti3 rfl)) ?_
        refine wo_valg (tj := 22) (.int .i64 (j : Int)) rfl (congrArg AV.bool hb1) rfl pv_move ?_
        refine wo_valg (tj := 22) (.bool (a1.To == (j : Int))) rfl (congrArg AV.bool hb1) rfl (pv_bin rfl rfl rfl) ?_
        refine wo_val (.bool (a1.To == (j : Int))) rfl (pv_pick (t := true) (congrArg AV.bool hb1) rfl) ?_
        refine wo_back1 ?_
        refine wo_is [(0, (.sl 1 (List.map rB vis))), (3, v), (4, (.int .i64 (j : Int))), (5, (.int .i64 (out.length : Int))), (31, (.bool (a1.To == (j : Int))))] (.cons rfl (.cons rfl (.cons rfl (.cons rfl (.cons rfl .nil))))) ?_
        exact hJ (a1.To == (j : Int)) _ _ ⟨rfl, rfl⟩
      · refine wo_not (tj := 22) (b := false) rfl (congrArg AV.bool hb1) rfl rfl ?_
        refine wo_not (tj := 22) (b := false) rfl (congrArg AV.bool hb1) rfl rfl ?_
        refine wo_not (tj := 22) (b := false) rfl (congrArg AV.bool hb1) rfl rfl ?_
        refine wo_not (tj := 22) (b := false) rfl (congrArg AV.bool hb1) rfl rfl ?_
        refine wo_not (tj := 22) (b := false) rfl (congrArg AV.bool hb1) rfl rfl ?_
        refine wo_not (tj := 22) (b := false) rfl (congrArg AV.bool hb1) rfl rfl ?_
        refine wo_not (tj := 22) (b := false) rfl (congrArg AV.bool hb1) rfl rfl ?_
        refine wo_not (tj := 22) (b := false) rfl (congrArg AV.bool hb1) rfl rfl ?_
        refine wo_val (.bool false) rfl (pv_pick (t := false) (congrArg AV.bool hb1) rfl) ?_
        refine wo_back1 ?_
        refine wo_is [(0, (.sl 1 (List.map rB vis))), (3, v), (4, (.int .i64 (j : Int))), (5, (.int .i64 (out.length : Int))), (31, (.bool false))] (.cons rfl (.cons rfl (.cons rfl (.cons rfl (.cons rfl .nil))))) ?_
        exact hJ false _ _ ⟨rfl, rfl⟩
    · refine wr_exit rfl ?_
      refine wr_region ?_
      refine wo_val (.int .i64 (j : Int)) rfl pv_move ?_
      refine wo_val (.int .i64 (IntKind.wrap .i64 ((j : Int) + 1))) rfl (pv_bin rfl rfl rfl) ?_
      refine wo_val (.int .i64 (IntKind.wrap .i64 ((j : Int) + 1))) rfl pv_assign ?_
      refine wo_nil ?_
      refine wr_is [(0, (.sl 1 (List.map rB vis))), (3, v), (4, (.int .i64 ((j + 1 : Nat) : Int)))] (.cons rfl (.cons rfl (.cons (inc_ok (lt_of_get ha) hlim) .nil))) ?_
      refine wb_S ?_
      refine hW out _ _ ?_
      exact ⟨v, g, vH, rfl, rfl⟩
  · rintro out fr h ⟨v, g, vH, rfl, rfl⟩
    refine wr_seq ?_
    refine wr_seq ?_
    refine wr_region ?_
    refine wo_val (.int .i64 (vis.length : Int)) rfl pv_move ?_
    refine wo_val (.sl 1 (List.map rB vis)) rfl pv_move ?_
    refine wo_val (.int .i64 (vis.length : Int)) rfl (pv_len (len_sl ti82)) ?_
    refine wo_val (.bool (decide ((vis.length : Int) < (vis.length : Int)))) rfl (pv_bin rfl rfl rfl) ?_
    refine wo_nil ?_
    refine wr_condF rfl (Int.lt_irrefl _) ?_
    refine wr_exit rfl ?_
    refine wr_seq ?_
    refine wr_region ?_
    refine wo_val v rfl pv_move ?_
    refine wo_val v rfl pv_assign ?_
    refine wo_nil ?_
    exact wr_retO (a := out) (v := v) (g := g) Try.func40 hI rfl rfl vH rfl
theorem cp_ref05_Spans (vis : (List Bool)) : CP Try.prog 40 [(.sl 1 (List.map rB vis))] (ref05_Spans vis) (fun (x : (List Span)) => (AV.sl 2 (List.map rSpan x))) := (cpo_ref05_Spans vis).cp (fun x => ok_Span x)

theorem cp_ref05_Minus (a : (List Span)) (b : (List Span)) : CP Try.prog 29 [(.sl 2 (List.map rSpan a)), (.sl 2 (List.map rSpan b))] (ref05_Minus a b) (fun (x : (List Span)) => (AV.sl 2 (List.map rSpan x))) := by
  refine cp_intro (n := 34) 1 Try.func29 rfl (by decide) rfl rfl fun h0 ids hI => ?_
  refine wr_in (wr_mod (ref05_Minus.eq_1 _ _) ?_)
  refine wr_seq ?_
  refine wr_region ?_
  refine wo_val .emp rfl pv_assign ?_
  refine wo_nil ?_
  refine wr_seq ?_
  refine wr_region ?_
  refine wo_val (.sl 2 (List.map rSpan a)) rfl pv_move ?_
  refine of_callO (j := 0) [(.sl 2 (List.map rSpan a))] hI rfl rfl rfl rfl rfl rfl ((cpo_ref05_Minutes a) _ _ (hI.at rfl rfl)) (fun v _ => wu_pan Try.func29 hI) fun r _ v g vH => ?_
  refine wo_val v rfl pv_assign ?_
  refine wo_nil ?_
  refine wr_hp [(ownO v g 1 (List.map rB r))] rfl ?_
  refine wr_seq ?_
  refine wr_region ?_
  refine wo_val (.sl 2 (List.map rSpan b)) rfl pv_move ?_
  refine of_call [(.sl 2 (List.map rSpan b))] rfl rfl rfl rfl ((cp_ref05_Minutes b) _) (fun v _ => wu_pan Try.func29 hI) fun y _ => ?_
  refine wo_val (.sl 1 (List.map rB y)) rfl pv_assign ?_
  refine wo_nil ?_
  refine wr_seq ?_
  refine wr_seq ?_
  refine wr_region ?_
  refine wo_val (.int .i64 0) rfl pv_assign ?_
  refine wo_nil ?_
  refine wf_join (fun x1 => ref05_Minus_j1 x1) (fun x1 => fun (fr : Nat → AV) (h : AHeap) => ∃ (v2 : AV), ∃ (g2 : Nat), OwnV v2 (ix ids 0) g2 x1.length ∧ fr = frA [(5, v2)] ∧ h = hp h0 ids [(ownO v2 g2 1 (List.map rB x1))]) ?_ fun hJ1 => ?_
  · rintro x1 fr h ⟨v2, g2, vH3, rfl, rfl⟩
    refine wr_mod (ref05_Minus_j1.eq_1 _) ?_
    refine wr_seq ?_
    refine wr_region ?_
    refine wo_val v2 rfl pv_move ?_
    refine wo_frz (h2 := hp h0 ids [none]) [(32, (.sl 1 (List.map rB x1)))] (Drops.sub (.drop .nil) hI.len) (.cons (own_fz vH3 (hI.at rfl rfl) (hI.at rfl rfl) (fun x => ok_B x)) .nil) rfl rfl ?_
    refine of_call [(.sl 1 (List.map rB x1))] rfl rfl rfl rfl ((cp_ref05_Spans x1) _) (fun v _ => wu_pan Try.func29 hI) fun r1 _ => ?_
    refine wo_val (.sl 2 (List.map rSpan r1)) rfl pv_assign ?_
    refine wo_nil ?_
    refine wr_hp [none] rfl ?_
    exact wr_ret (a := r1) (vs := [(.sl 2 (List.map rSpan r1))]) Try.func29 hI rfl (.same _)
  · refine wr_block ?_
    refine wr_is [(5, v), (6, (.sl 1 (List.map rB y))), (7, (.int .i64 0))] (.cons rfl (.cons rfl (.cons rfl .nil))) ?_
    refine wf_loop' (P := Try.prog) (un2 fun m x => ref05_Minus_b1 y m x) ((fun x1 => ref05_Minus_j1 x1) : (List Bool) → R (List Span))
      (un2 fun m x => fun (fr : Nat → AV) (h : AHeap) => ∃ (v1 : AV), ∃ (g1 : Nat), OwnV v1 (ix ids 0) g1 x.length ∧ fr = frA [(5, v1), (6, (.sl 1 (List.map rB y))), (7, (.int .i64 m))] ∧ h = hp h0 ids [(ownO v1 g1 1 (List.map rB x))]) (0, r) ?_ ?_
    · exact ⟨v, g, vH, rfl, rfl⟩
    · rintro vW hW ⟨m, x⟩ fr h ⟨v1, g1, vH1, rfl, rfl⟩
      refine wr_mod (m' := ref05_Minus_b1 y m x) rfl (wr_mod (ref05_Minus_b1.eq_1 _ _ _) ?_)
      refine wr_seq ?_
      refine wr_seq ?_
      refine wr_region ?_
      refine wo_val (.int .i64 m) rfl pv_move ?_
      refine wo_val v1 rfl pv_move ?_
      refine wo_val (.int .i64 (x.length : Int)) rfl (pv_len (OwnV.len vH1 ti82)) ?_
      refine wo_val (.bool (decide (m < (x.length : Int)))) rfl (pv_bin rfl rfl rfl) ?_
      refine wo_nil ?_
      refine wf_ite rfl (fun hc => ?_) (fun hc => ?_)
      · refine wr_skip ?_
        refine wr_seq ?_
        refine wr_block ?_
        refine wr_region ?_
        refine wo_val v1 rfl pv_move ?_
        refine wo_val (.int .i64 m) rfl pv_move ?_
        refine wo_val v1 rfl pv_move ?_
        refine wo_val (.int .i64 m) rfl pv_move ?_
        refine of_idx fun a1 hz hx1 => ?_
        refine wo_val (.ptr (ix ids 0) g1 m.toNat 0) rfl (pv_ixa (ixa_own hI rfl vH1 rfl ti82 ti4 rfl hz hx1)) ?_
        refine wo_val (.bool a1) rfl (pv_load (ld_own hI rfl vH1 rfl hx1 ti4 rfl)) ?_
        refine wo_val (.bool a1) rfl pv_move ?_
        refine wo_join 6 ((fun (b1 : Bool) => .ok (.inl ((IntKind.wrap .i64 (m + 1)), (x.set m.toNat b1)))) : Bool → R ((Int × (List Bool)) ⊕ (List Bool))) (fun (b1 : Bool) (fr : Nat → AV) (h : AHeap) => fr = frA [(5, v1), (6, (.sl 1 (List.map rB y))), (7, (.int .i64 m)), (18, v1), (19, (.int .i64 m)), (30, (.bool b1))] ∧ h = hp h0 ids [(ownO v1 g1 1 (List.map rB x))]) ?_ fun hJ => of_if1 (fun hb1 => ?_) (fun hb1 => ?_)
        · rintro b1 fr h ⟨rfl, rfl⟩
          refine wo_val (.ptr (ix ids 0) g1 m.toNat 0) rfl (pv_ixa (ixa_own hI rfl vH1 rfl ti82 ti4 rfl hz hx1)) ?_
          refine wo_store (st_own (y := b1) hI rfl rfl vH1 rfl hx1 ti4 rfl rfl rfl rfl rfl rfl) ?_
          have vH2 := OwnV.set (i := m.toNat) (y := b1) vH1
          have hx3 := List.getElem?_set_self (a := b1) (lt_of_get hx1)
          refine wo_nil ?_
          refine wr_hp [(ownO v1 g1 1 (List.map rB (x.set m.toNat b1)))] rfl ?_
          refine wr_inBlock ?_
          refine wr_region ?_
          refine wo_val (.int .i64 m) rfl pv_move ?_
          refine wo_val (.int .i64 (IntKind.wrap .i64 (m + 1))) rfl (pv_bin rfl rfl rfl) ?_
          refine wo_val (.int .i64 (IntKind.wrap .i64 (m + 1))) rfl pv_assign ?_
          refine wo_nil ?_
          refine wr_is [(5, v1), (6, (.sl 1 (List.map rB y))), (7, (.int .i64 (IntKind.wrap .i64 (m + 1))))] (.cons rfl (.cons rfl (.cons rfl .nil))) ?_
          refine wb_loop ?_
          refine hW ((IntKind.wrap .i64 (m + 1)), (x.set m.toNat b1)) _ _ ?_
          exact ⟨v1, g1, vH2, rfl, rfl⟩
        · refine wo_valg (tj := 24) (.sl 1 (List.map rB y)) rfl (congrArg AV.bool hb1) rfl pv_move ?_
          refine wo_valg (tj := 24) (.int .i64 m) rfl (congrArg AV.bool hb1) rfl pv_move ?_
          refine of_idx fun a2 hz1 hx2 => ?_
          refine wo_valg (tj := 24) (.cp [(.bool a2)] 0) rfl (congrArg AV.bool hb1) rfl (pv_ixa (ixa_sl ti82 ti4 rfl hz1 hx2)) ?_
          refine wo_valg (tj := 24) (.bool a2) rfl (congrArg AV.bool hb1) rfl (pv_load (ld_cp ti4 rfl)) ?_
          refine wo_valg (tj := 24) (.bool (!a2)) rfl (congrArg AV.bool hb1) rfl (pv_un rfl) ?_
          refine wo_val (.bool (!a2)) rfl (pv_pick (t := true) (congrArg AV.bool hb1) rfl) ?_
          refine wo_back1 ?_
          refine wo_is [(5, v1), (6, (.sl 1 (List.map rB y))), (7, (.int .i64 m)), (18, v1), (19, (.int .i64 m)), (30, (.bool (!a2)))] (.cons rfl (.cons rfl (.cons rfl (.cons rfl (.cons rfl (.cons rfl .nil)))))) ?_
          exact hJ (!a2) _ _ ⟨rfl, rfl⟩
        · refine wo_not (tj := 24) (b := false) rfl (congrArg AV.bool hb1) rfl rfl ?_
          refine wo_not (tj := 24) (b := false) rfl (congrArg AV.bool hb1) rfl rfl ?_
          refine wo_not (tj := 24) (b := false) rfl (congrArg AV.bool hb1) rfl rfl ?_
          refine wo_not (tj := 24) (b := false) rfl (congrArg AV.bool hb1) rfl rfl ?_
          refine wo_not (tj := 24) (b := false) rfl (congrArg AV.bool hb1) rfl rfl ?_
          refine wo_val (.bool false) rfl (pv_pick (t := false) (congrArg AV.bool hb1) rfl) ?_
          refine wo_back1 ?_
          refine wo_is [(5, v1), (6, (.sl 1 (List.map rB y))), (7, (.int .i64 m)), (18, v1), (19, (.int .i64 m)), (30, (.bool false))] (.cons rfl (.cons rfl (.cons rfl (.cons rfl (.cons rfl (.cons rfl .nil)))))) ?_
          exact hJ false _ _ ⟨rfl, rfl⟩
      · refine wr_exit rfl ?_
        refine wx_loop ?_
        refine wr_is [(5, v1)] (.cons rfl .nil) ?_
        refine hJ1 x _ _ ?_
        exact ⟨v1, g1, vH1, rfl, rfl⟩

theorem cp_ref11_Minutes (a : Airspace) (segment : Int) : CP Try.prog 11 [(.agg (rAirspace a)), (.int .i64 segment)] (ref11_Minutes a segment) (fun (p : ((List Span) × Int)) => AV.tup [(.sl 2 (List.map rSpan p.1)), (.int .i64 p.2)]) := by
  refine cp_intro (n := 33) 2 Try.func11 rfl (by decide) rfl rfl fun h0 ids hI => ?_
  refine wr_in (wr_mod (ref11_Minutes.eq_1 _ _) ?_)
  refine wr_seq ?_
  refine wr_region ?_
  refine wo_box (v := (.agg (rAirspace a))) (j := 0) hI rfl rfl rfl rfl rfl rfl rfl fun g => ?_
  refine wo_val .emp rfl pv_assign ?_
  refine wo_val (.int .i64 0) rfl pv_assign ?_
  refine wo_nil ?_
  refine wr_hp [(some (.rows g 8 [(rAirspace a)])), none] rfl ?_
  refine wr_seq ?_
  refine wr_seq ?_
  refine wr_region ?_
  refine wo_val (.agg (rAirspace a)) rfl (pv_load (ld_ptr hI rfl rfl rfl ti31 rfl)) ?_
  refine wo_val (.int .i64 segment) rfl pv_move ?_
  refine of_call [(.agg (rAirspace a)), (.int .i64 segment)] rfl rfl rfl rfl ((cp_ref11_known a segment) _) (fun v _ => wu_pan Try.func11 hI) fun r _ => ?_
  refine wo_val (.bool (!r)) rfl (pv_un rfl) ?_
  refine wo_nil ?_
  refine wf_itebn rfl (fun hc => ?_) (fun hc => ?_)
  · refine wr_skip ?_
    refine wr_seq ?_
    refine wr_region ?_
    refine wo_val (.ptr (ix ids 0) g 0 3) rfl (pv_fa (fa_ptr (c := 0) (off := 3) (i := 3) ti31 rfl ti25 rfl)) ?_
    refine wo_val (.sl 5 (List.map rSegment a.Segments)) rfl (pv_load (ld_ptr hI rfl rfl rfl ti25 rfl)) ?_
    refine wo_val (.int .i64 segment) rfl pv_move ?_
    refine of_idx fun a1 hz hx1 => ?_
    refine wo_val (.cp (rSegment a1) 0) rfl (pv_ixa (ixa_sl ti25 ti59 rfl hz hx1)) ?_
    refine wo_val (.agg (rSegment a1)) rfl (pv_load (ld_cp ti59 rfl)) ?_
    refine wo_alloc (j := 1) hI rfl rfl rfl rfl ti59 rfl fun g1 => ?_
    refine wo_store (st_ptr hI rfl rfl rfl rfl ti59 rfl rfl rfl rfl rfl) ?_
    refine wo_nil ?_
    refine wr_hp [(some (.rows g 8 [(rAirspace a)])), (some (.rows g1 5 [(rSegment a1)]))] rfl ?_
    refine wr_seq ?_
    refine wr_region ?_
    refine wo_val (.ptr (ix ids 1) g1 0 4) rfl (pv_fa (fa_ptr (c := 0) (off := 4) (i := 4) ti59 rfl ti35 rfl)) ?_
    refine wo_val (.sl 2 (List.map rSpan a1.Open)) rfl (pv_load (ld_ptr hI rfl rfl rfl ti35 rfl)) ?_
    refine wo_val (.sl 2 (List.map rSpan a1.Open)) rfl pv_assign ?_
    refine wo_nil ?_
    refine wr_seq ?_
    refine wr_seq ?_
    refine wr_region ?_
    refine wo_val (.sl 2 (List.map rSpan a1.Open)) rfl pv_move ?_
    refine wo_val (.int .i64 (a1.Open.length : Int)) rfl (pv_len (len_sl ti35)) ?_
    refine wo_val (.bool ((a1.Open.length : Int) == 0)) rfl (pv_bin rfl rfl rfl) ?_
    refine wo_nil ?_
    refine wf_join (fun vopen => ref11_Minutes_j1 a a1 vopen) (fun vopen => fun (fr : Nat → AV) (h : AHeap) => fr = frA [(2, (.ptr (ix ids 0) g 0 0)), (6, (.ptr (ix ids 1) g1 0 0)), (7, (.sl 2 (List.map rSpan vopen)))] ∧ h = hp h0 ids [(some (.rows g 8 [(rAirspace a)])), (some (.rows g1 5 [(rSegment a1)]))]) ?_ fun hJ => ?_
    · rintro vopen fr h ⟨rfl, rfl⟩
      refine wr_mod (ref11_Minutes_j1.eq_1 _ _ _) ?_
      refine wr_seq ?_
      refine wr_region ?_
      refine wo_val (.sl 2 (List.map rSpan vopen)) rfl pv_move ?_
      refine wo_val (.ptr (ix ids 0) g 0 0) rfl (pv_fa (fa_ptr (c := 0) (off := 0) (i := 0) ti31 rfl ti22 rfl)) ?_
      refine wo_val (.sl 2 (List.map rVolume a.Volumes)) rfl (pv_load (ld_ptr hI rfl rfl rfl ti22 rfl)) ?_
      refine wo_val (.ptr (ix ids 1) g1 0 2) rfl (pv_fa (fa_ptr (c := 0) (off := 2) (i := 2) ti59 rfl ti3 rfl)) ?_
      refine wo_val (.int .i64 a1.Volume) rfl (pv_load (ld_ptr hI rfl rfl rfl ti3 rfl)) ?_
      refine of_idx fun a2 hz1 hx2 => ?_
      refine wo_val (.cp (rVolume a2) 0) rfl (pv_ixa (ixa_sl ti22 ti57 rfl hz1 hx2)) ?_
      refine wo_val (.cp (rVolume a2) 1) rfl (pv_fa (fa_cp (c := 0) (off := 1) (i := 1) ti57 rfl ti35 rfl)) ?_
      refine wo_val (.sl 2 (List.map rSpan a2.Closed)) rfl (pv_load (ld_cp ti35 rfl)) ?_
      refine of_call [(.sl 2 (List.map rSpan vopen)), (.sl 2 (List.map rSpan a2.Closed))] rfl rfl rfl rfl ((cp_ref05_Minus vopen a2.Closed) _) (fun v _ => wu_pan Try.func11 hI) fun r1 _ => ?_
      refine wo_val (.sl 2 (List.map rSpan r1)) rfl pv_assign ?_
      refine wo_val (.int .i64 0) rfl pv_assign ?_
      refine wo_nil ?_
      exact wr_ret (a := (r1, 0)) (vs := [(.sl 2 (List.map rSpan r1)), (.int .i64 0)]) Try.func11 hI rfl (.tupL (.cons (.same _) (.cons (.same _) .nil)))
    · refine wf_iteb rfl (fun hc1 => ?_) (fun hc1 => ?_)
      · refine wr_region ?_
        refine wo_val (.agg [(.int .i64 0), (.int .i64 1440)]) rfl (pv_build (bd_st ti55 pl55 rfl)) ?_
        refine wo_bsC (e := rSpan) (L := [({ From := 0, To := 1440 } : Span)]) (st := 2) (rows := [[(.int .i64 0), (.int .i64 1440)]]) rfl ti35 ti55 rfl rfl rfl rfl rfl (.cons (.cons (.same _) (.cons (.same _) .nil)) .nil) (fun x => ok_Span x) rfl rfl ?_
        refine wo_val (.sl 2 (List.map rSpan [({ From := 0, To := 1440 } : Span)])) rfl pv_assign ?_
        refine wo_nil ?_
        refine wr_is [(2, (.ptr (ix ids 0) g 0 0)), (6, (.ptr (ix ids 1) g1 0 0)), (7, (.sl 2 (List.map rSpan [({ From := 0, To := 1440 } : Span)])))] (.cons rfl (.cons rfl (.cons rfl .nil))) ?_
        refine hJ [({ From := 0, To := 1440 } : Span)] _ _ ?_
        exact ⟨rfl, rfl⟩
      · refine wr_skip ?_
        refine wr_is [(2, (.ptr (ix ids 0) g 0 0)), (6, (.ptr (ix ids 1) g1 0 0)), (7, (.sl 2 (List.map rSpan a1.Open)))] (.cons rfl (.cons rfl (.cons rfl .nil))) ?_
        refine hJ a1.Open _ _ ?_
        exact ⟨rfl, rfl⟩
  · refine wr_seq ?_
    refine wr_region ?_
    refine wo_val .emp rfl pv_assign ?_
    refine wo_val (.int .i64 1) rfl pv_assign ?_
    refine wo_nil ?_
    exact wr_ret (a := ([], 1)) (vs := [.emp, (.int .i64 1)]) Try.func11 hI rfl (.tupL (.cons (.emp _) (.cons (.same _) .nil)))

theorem cp_ref11_Legs (a : Airspace) (route : Int) : CP Try.prog 13 [(.agg (rAirspace a)), (.int .i64 route)] (ref11_Legs a route) (fun (p : ((List Leg) × Int)) => AV.tup [(.sl 4 (List.map rLeg p.1)), (.int .i64 p.2)]) := by
  refine cp_intro (n := 69) 2 Try.func13 rfl (by decide) rfl rfl fun h0 ids hI => ?_
  refine wr_in (wr_mod (ref11_Legs.eq_1 _ _) ?_)
  refine wr_seq ?_
  refine wr_region ?_
  refine wo_box (v := (.agg (rAirspace a))) (j := 0) hI rfl rfl rfl rfl rfl rfl rfl fun g => ?_
  refine wo_val .emp rfl pv_assign ?_
  refine wo_val (.int .i64 0) rfl pv_assign ?_
  refine wo_nil ?_
  refine wr_hp [(some (.rows g 8 [(rAirspace a)])), none] rfl ?_
  refine wr_seq ?_
  refine wr_seq ?_
  refine wr_region ?_
  refine wo_val (.int .i64 route) rfl pv_move ?_
  refine wo_val (.bool (decide (route < 0))) rfl (pv_bin rfl rfl rfl) ?_
  refine wo_val (.bool (decide (route < 0))) rfl pv_move ?_
  refine wo_meet 6 [(1, (.int .i64 route)), (2, (.ptr (ix ids 0) g 0 0)), (19, (.bool ((decide (route < 0)) || (decide (route ≥ (a.Routes.length : Int))))))] ?_ fun hJ => wo_cases (decide (route < 0)) (fun hb1 => ?_) (fun hb1 => ?_)
  · refine wo_nil ?_
    refine wf_iteb rfl (fun hc => ?_) (fun hc => ?_)
    · refine wr_seq ?_
      refine wr_region ?_
      refine wo_val .emp rfl pv_assign ?_
      refine wo_val (.int .i64 1) rfl pv_assign ?_
      refine wo_nil ?_
      exact wr_ret (a := ([], 1)) (vs := [.emp, (.int .i64 1)]) Try.func13 hI rfl (.tupL (.cons (.emp _) (.cons (.same _) .nil)))
    · refine wr_skip ?_
      refine wr_seq ?_
      refine wr_region ?_
      refine wo_bs0 rfl ti39 ti52 ?_
      refine wo_val .emp rfl pv_assign ?_
      refine wo_nil ?_
      refine wr_seq ?_
      refine wr_seq ?_
      refine wr_region ?_
      refine wo_val (.int .i64 0) rfl pv_assign ?_
      refine wo_nil ?_
      refine wf_join (fun l1 => ref11_Legs_j1 l1) (fun l1 => fun (fr : Nat → AV) (h : AHeap) => ∃ (v2 : AV), ∃ (g3 : Nat), OwnV v2 (ix ids 1) g3 l1.length ∧ fr = frA [(6, v2)] ∧ h = hp h0 ids [none, (ownO v2 g3 4 (List.map rLeg l1))]) ?_ fun hJ1 => ?_
      · rintro l1 fr h ⟨v2, g3, vH2, rfl, rfl⟩
        refine wr_mod (ref11_Legs_j1.eq_1 _) ?_
        refine wr_seq ?_
        refine wr_region ?_
        refine wo_val v2 rfl pv_move ?_
        refine wo_val v2 rfl pv_assign ?_
        refine wo_val (.int .i64 0) rfl pv_assign ?_
        refine wo_nil ?_
        exact wr_ret (a := (l1, 0)) (vs := [v2, (.int .i64 0)]) Try.func13 hI rfl (.tupL (.cons (own_fz vH2 (hI.at rfl rfl) (hI.out rfl) (fun x => ok_Leg x)) (.cons (.same _) .nil)))
      · refine wr_block ?_
        refine wr_is [(1, (.int .i64 route)), (2, (.ptr (ix ids 0) g 0 0)), (6, .emp), (7, (.int .i64 0))] (.cons rfl (.cons rfl (.cons rfl (.cons rfl .nil)))) ?_
        refine wf_loop' (P := Try.prog) (un2 fun i l => ref11_Legs_b1 a route i l) ((alt (fun l1 => ref11_Legs_j1 l1) (fun r => .ok r)) : ((List Leg) ⊕ ((List Leg) × Int)) → R ((List Leg) × Int))
          (un2 fun i l => fun (fr : Nat → AV) (h : AHeap) => ∃ (v : AV), ∃ (g1 : Nat), OwnV v (ix ids 1) g1 l.length ∧ fr = frA [(1, (.int .i64 route)), (2, (.ptr (ix ids 0) g 0 0)), (6, v), (7, (.int .i64 i))] ∧ h = hp h0 ids [(some (.rows g 8 [(rAirspace a)])), (ownO v g1 4 (List.map rLeg l))]) (0, []) ?_ ?_
        · exact ⟨.emp, 0, .nil, rfl, rfl⟩
        · rintro vW hW ⟨i, l⟩ fr h ⟨v, g1, vH, rfl, rfl⟩
          refine wr_mod (m' := ref11_Legs_b1 a route i l) rfl (wr_mod (ref11_Legs_b1.eq_1 _ _ _ _) ?_)
          refine wr_seq ?_
          refine wr_seq ?_
          refine wr_region ?_
          refine wo_val (.int .i64 i) rfl pv_move ?_
          refine wo_val (.ptr (ix ids 0) g 0 4) rfl (pv_fa (fa_ptr (c := 0) (off := 4) (i := 4) ti31 rfl ti26 rfl)) ?_
          refine wo_val (.sl 7 (List.map rRoute a.Routes)) rfl (pv_load (ld_ptr hI rfl rfl rfl ti26 rfl)) ?_
          refine wo_val (.int .i64 route) rfl pv_move ?_
          refine of_idx fun a1 hz hx1 => ?_
          refine wo_val (.cp (rRoute a1) 0) rfl (pv_ixa (ixa_sl ti26 ti50 rfl hz hx1)) ?_
          refine wo_val (.cp (rRoute a1) 6) rfl (pv_fa (fa_cp (c := 0) (off := 6) (i := 6) ti50 rfl ti34 rfl)) ?_
          refine wo_val (.sl 1 (List.map (rI .i64) a1.Segments)) rfl (pv_load (ld_cp ti34 rfl)) ?_
          refine wo_val (.int .i64 (a1.Segments.length : Int)) rfl (pv_len (len_sl ti34)) ?_
          refine wo_val (.bool (decide (i < (a1.Segments.length : Int)))) rfl (pv_bin rfl rfl rfl) ?_
          refine wo_nil ?_
          refine wf_ite rfl (fun hc1 => ?_) (fun hc1 => ?_)
          · refine wr_skip ?_
            refine wr_seq ?_
            refine wr_block ?_
            refine wr_seq ?_
            refine wr_region ?_
            refine wo_val (.ptr (ix ids 0) g 0 4) rfl (pv_fa (fa_ptr (c := 0) (off := 4) (i := 4) ti31 rfl ti26 rfl)) ?_
            refine wo_val (.sl 7 (List.map rRoute a.Routes)) rfl (pv_load (ld_ptr hI rfl rfl rfl ti26 rfl)) ?_
            refine wo_val (.int .i64 route) rfl pv_move ?_
            refine wo_val (.cp (rRoute a1) 0) rfl (pv_ixa (ixa_sl ti26 ti50 rfl hz hx1)) ?_
            refine wo_val (.cp (rRoute a1) 6) rfl (pv_fa (fa_cp (c := 0) (off := 6) (i := 6) ti50 rfl ti34 rfl)) ?_
            refine wo_val (.sl 1 (List.map (rI .i64) a1.Segments)) rfl (pv_load (ld_cp ti34 rfl)) ?_
            refine wo_val (.int .i64 i) rfl pv_move ?_
            refine of_idx fun a2 hz1 hx2 => ?_
            refine wo_val (.cp [(.int .i64 a2)] 0) rfl (pv_ixa (ixa_sl ti34 ti3 rfl hz1 hx2)) ?_
            refine wo_val (.int .i64 a2) rfl (pv_load (ld_cp ti3 rfl)) ?_
            refine wo_val (.int .i64 a2) rfl pv_assign ?_
            refine wo_nil ?_
            refine wr_seq ?_
            refine wr_region ?_
            refine wo_val (.agg (rAirspace a)) rfl (pv_load (ld_ptr hI rfl rfl rfl ti31 rfl)) ?_
            refine wo_val (.int .i64 a2) rfl pv_move ?_
            refine of_call [(.agg (rAirspace a)), (.int .i64 a2)] rfl rfl rfl rfl ((cp_ref11_Minutes a a2) _) (fun v _ => wu_pan Try.func13 hI) fun r _ => ?_
            refine wo_val (.tup [(.sl 2 (List.map rSpan r.1)), (.int .i64 r.2)]) rfl pv_move ?_
            refine wo_val (.sl 2 (List.map rSpan r.1)) rfl (pv_ext rfl) ?_
            refine wo_val (.int .i64 r.2) rfl (pv_ext rfl) ?_
            refine wo_val (.sl 2 (List.map rSpan r.1)) rfl pv_assign ?_
            refine wo_val (.int .i64 r.2) rfl pv_assign ?_
            refine wo_nil ?_
            refine wr_seq ?_
            refine wr_seq ?_
            refine wr_region ?_
            refine wo_val (.int .i64 r.2) rfl pv_move ?_
            refine wo_val (.bool (r.2 != 0)) rfl (pv_bin rfl rfl rfl) ?_
            refine wo_nil ?_
            refine wf_iteb rfl (fun hc2 => ?_) (fun hc2 => ?_)
            · refine wr_seq ?_
              refine wr_region ?_
              refine wo_val (.int .i64 r.2) rfl pv_move ?_
              refine wo_val .emp rfl pv_assign ?_
              refine wo_val (.int .i64 r.2) rfl pv_assign ?_
              refine wo_nil ?_
              refine wx_loop ?_
              refine w_altr ?_
              exact wr_ret (a := ([], r.2)) (vs := [.emp, (.int .i64 r.2)]) Try.func13 hI rfl (.tupL (.cons (.emp _) (.cons (.same _) .nil)))
            · refine wr_skip ?_
              refine wr_draw hmix [[], [], [], [2], [], [2, 3, 4], [2, 3, 4, 5], [2, 3, 4, 5, 6], [], [8], [], [8, 9, 10], [8, 9, 10, 11], [8, 9, 10, 11, 12], [], [1, 2, 3, 4, 5, 6, 7, 8, 9, 10, 11, 12, 13, 14], [1, 2, 3, 4, 5, 6, 7, 8, 9, 10, 11, 12, 13, 14, 15], [0, 1, 2, 3, 4, 5, 6, 7, 8, 9, 10, 11, 12, 13, 14, 15, 16], [0, 1, 2, 3, 4, 5, 6, 7, 8, 9, 10, 11, 12, 13, 14, 15, 16, 17, 17, 17]] [(false, 0), (false, 1), (false, 2), (false, 3), (false, 4), (false, 5), (false, 6), (false, 7), (false, 8), (false, 9), (false, 10), (false, 11), (false, 12), (false, 13), (false, 14), (false, 15), (true, 16), (true, 17), (false, 18)] (by kernel_rfl) ?_
              refine wp_val v rfl rfl pv_move ?_
              refine wp_val (.int .i64 a2) rfl rfl pv_move ?_
              refine wp_val (.ptr (ix ids 0) g 0 3) rfl rfl (pv_fa (fa_ptr (c := 0) (off := 3) (i := 3) ti31 rfl ti25 rfl)) ?_
              refine wp_val (.sl 5 (List.map rSegment a.Segments)) rfl rfl (pv_load (ld_ptr hI rfl rfl rfl ti25 rfl)) ?_
              refine wp_val (.int .i64 a2) rfl rfl pv_move ?_
              refine op_idx fun a3 hz2 hx3 => ?_
              refine wp_val (.cp (rSegment a3) 0) rfl rfl (pv_ixa (ixa_sl ti25 ti59 rfl hz2 hx3)) ?_
              refine wp_val (.cp (rSegment a3) 2) rfl rfl (pv_fa (fa_cp (c := 0) (off := 2) (i := 2) ti59 rfl ti3 rfl)) ?_
              refine wp_val (.int .i64 a3.Volume) rfl rfl (pv_load (ld_cp ti3 rfl)) ?_
              refine wp_val (.ptr (ix ids 0) g 0 3) rfl rfl (pv_fa (fa_ptr (c := 0) (off := 3) (i := 3) ti31 rfl ti25 rfl)) ?_
              refine wp_val (.sl 5 (List.map rSegment a.Segments)) rfl rfl (pv_load (ld_ptr hI rfl rfl rfl ti25 rfl)) ?_
              refine wp_val (.int .i64 a2) rfl rfl pv_move ?_
              refine wp_val (.cp (rSegment a3) 0) rfl rfl (pv_ixa (ixa_sl ti25 ti59 rfl hz2 hx3)) ?_
              refine wp_val (.cp (rSegment a3) 3) rfl rfl (pv_fa (fa_cp (c := 0) (off := 3) (i := 3) ti59 rfl ti3 rfl)) ?_
              refine wp_val (.int .i64 a3.Length) rfl rfl (pv_load (ld_cp ti3 rfl)) ?_
              refine wp_val (.sl 2 (List.map rSpan r.1)) rfl rfl pv_move ?_
              refine wp_val (.agg [(.int .i64 a2), (.int .i64 a3.Volume), (.int .i64 a3.Length), (.sl 2 (List.map rSpan r.1))]) rfl rfl (pv_build (bd_st ti52 pl52 rfl)) ?_
              refine wp_op rfl rfl (fun _ _ => rfl) (fun K hK => eff_bsC (e := rLeg) (L := [({ Segment := a2, Volume := a3.Volume, Length := a3.Length, Minutes := r.1 } : Leg)]) (st := 4) (rows := [[(.int .i64 a2), (.int .i64 a3.Volume), (.int .i64 a3.Length), (.sl 2 (List.map rSpan r.1))]]) ti39 ti52 rfl rfl rfl rfl rfl (.cons (.cons (.same _) (.cons (.same _) (.cons (.same _) (.cons (.same _) .nil)))) .nil) (fun x => ok_Leg x) rfl rfl (hK _ _ (pend_yes rfl (pend_yes rfl (pend_yes rfl (pend_yes rfl (pend_yes rfl (pend_yes rfl (pend_yes rfl (pend_yes rfl (pend_yes rfl (pend_yes rfl (pend_yes rfl (pend_yes rfl (pend_yes rfl (pend_yes rfl (pend_yes rfl (pend_no rfl pv_move pend_nil)))))))))))))))) ?_)) 
              clear hK K
              refine op_need fun hl => ?_
              refine wp_op rfl rfl (fun _ _ => rfl) (fun K hK => eff_append (e := rLeg) (L := l) (L2 := [({ Segment := a2, Volume := a3.Volume, Length := a3.Length, Minutes := r.1 } : Leg)]) (v := v) (g := g1) (st := 4) (j := 1) hI rfl rfl rfl vH rfl (src_sl rfl) ti39 ti39 rfl ti52 rfl rfl rfl hl fun v1 g2 vH1 => hK _ _ (pend_yes rfl (pend_yes rfl (pend_yes rfl (pend_yes rfl (pend_yes rfl (pend_yes rfl (pend_yes rfl (pend_yes rfl (pend_yes rfl (pend_yes rfl (pend_yes rfl (pend_yes rfl (pend_yes rfl (pend_yes rfl (pend_yes rfl (pend_yes rfl pend_nil)))))))))))))))) ?_) 
              clear hK K
              refine wp_val v1 rfl rfl pv_assign ?_
              refine wp_nil ?_
              refine wr_hp [(some (.rows g 8 [(rAirspace a)])), (ownO v1 g2 4 (List.map rLeg (l ++ [({ Segment := a2, Volume := a3.Volume, Length := a3.Length, Minutes := r.1 } : Leg)])))] rfl ?_
              refine wr_inBlock ?_
              refine wr_region ?_
              refine wo_val (.int .i64 i) rfl pv_move ?_
              refine wo_val (.int .i64 (IntKind.wrap .i64 (i + 1))) rfl (pv_bin rfl rfl rfl) ?_
              refine wo_val (.int .i64 (IntKind.wrap .i64 (i + 1))) rfl pv_assign ?_
              refine wo_nil ?_
              refine wr_is [(1, (.int .i64 route)), (2, (.ptr (ix ids 0) g 0 0)), (6, v1), (7, (.int .i64 (IntKind.wrap .i64 (i + 1))))] (.cons rfl (.cons rfl (.cons rfl (.cons rfl .nil)))) ?_
              refine wb_loop ?_
              refine hW ((IntKind.wrap .i64 (i + 1)), (l ++ [({ Segment := a2, Volume := a3.Volume, Length := a3.Length, Minutes := r.1 } : Leg)])) _ _ ?_
              exact ⟨v1, g2, vH1, rfl, rfl⟩
          · refine wr_exit rfl ?_
            refine wx_loop ?_
            refine w_altl ?_
            refine wr_drop [none, (ownO v g1 4 (List.map rLeg l))] hI rfl (.drop (.keep .nil)) ?_
            refine wr_is [(6, v)] (.cons rfl .nil) ?_
            refine hJ1 l _ _ ?_
            exact ⟨v, g1, vH, rfl, rfl⟩
  · refine wo_not (tj := 13) (b := true) rfl (congrArg AV.bool hb1) rfl rfl ?_
    refine wo_not (tj := 13) (b := true) rfl (congrArg AV.bool hb1) rfl rfl ?_
    refine wo_not (tj := 13) (b := true) rfl (congrArg AV.bool hb1) rfl rfl ?_
    refine wo_not (tj := 13) (b := true) rfl (congrArg AV.bool hb1) rfl rfl ?_
    refine wo_not (tj := 13) (b := true) rfl (congrArg AV.bool hb1) rfl rfl ?_
    refine wo_val (.bool true) rfl (pv_pick (t := true) (congrArg AV.bool hb1) rfl) ?_
    exact wo_is [(1, (.int .i64 route)), (2, (.ptr (ix ids 0) g 0 0)), (19, (.bool ((decide (route < 0)) || (decide (route ≥ (a.Routes.length : Int))))))] (.cons rfl (.cons rfl (.cons (or_t hb1) .nil))) hJ
  · refine wo_valg (tj := 13) (.int .i64 route) rfl (congrArg AV.bool hb1) rfl pv_move ?_
    refine wo_valg (tj := 13) (.ptr (ix ids 0) g 0 4) rfl (congrArg AV.bool hb1) rfl (pv_fa (fa_ptr (c := 0) (off := 4) (i := 4) ti31 rfl ti26 rfl)) ?_
    refine wo_valg (tj := 13) (.sl 7 (List.map rRoute a.Routes)) rfl (congrArg AV.bool hb1) rfl (pv_load (ld_ptr hI rfl rfl rfl ti26 rfl)) ?_
    refine wo_valg (tj := 13) (.int .i64 (a.Routes.length : Int)) rfl (congrArg AV.bool hb1) rfl (pv_len (len_sl ti26)) ?_
    refine wo_valg (tj := 13) (.bool (decide (route ≥ (a.Routes.length : Int)))) rfl (congrArg AV.bool hb1) rfl (pv_bin rfl rfl rfl) ?_
    refine wo_val (.bool (decide (route ≥ (a.Routes.length : Int)))) rfl (pv_pick (t := false) (congrArg AV.bool hb1) rfl) ?_
    exact wo_is [(1, (.int .i64 route)), (2, (.ptr (ix ids 0) g 0 0)), (19, (.bool ((decide (route < 0)) || (decide (route ≥ (a.Routes.length : Int))))))] (.cons rfl (.cons rfl (.cons (or_f hb1) .nil))) hJ

theorem cp_ref11_SameLegs (a : (List Leg)) (b : (List Leg)) : CP Try.prog 15 [(.sl 4 (List.map rLeg a)), (.sl 4 (List.map rLeg b))] (ref11_SameLegs a b) (fun (x : Bool) => (AV.bool x)) := by
  refine cp_intro (n := 68) 0 Try.func15 rfl (by decide) rfl rfl fun h0 ids hI => ?_
  refine wr_in (wr_mod (ref11_SameLegs.eq_1 _ _) ?_)
  refine wr_seq ?_
  refine wr_region ?_
  refine wo_val (.bool false) rfl pv_assign ?_
  refine wo_nil ?_
  refine wr_seq ?_
  refine wr_seq ?_
  refine wr_region ?_
  refine wo_val (.sl 4 (List.map rLeg a)) rfl pv_move ?_
  refine wo_val (.int .i64 (a.length : Int)) rfl (pv_len (len_sl ti39)) ?_
  refine wo_val (.sl 4 (List.map rLeg b)) rfl pv_move ?_
  refine wo_val (.int .i64 (b.length : Int)) rfl (pv_len (len_sl ti39)) ?_
  refine wo_val (.bool ((a.length : Int) != (b.length : Int))) rfl (pv_bin rfl rfl rfl) ?_
  refine wo_nil ?_
  refine wf_iteb rfl (fun hc => ?_) (fun hc => ?_)
  · refine wr_seq ?_
    refine wr_region ?_
    refine wo_val (.bool false) rfl pv_assign ?_
    refine wo_nil ?_
    exact wr_ret (a := false) (vs := [(.bool false)]) Try.func15 hI rfl (.same _)
  · refine wr_skip ?_
    refine wr_seq ?_
    refine wr_seq ?_
    refine wr_region ?_
    refine wo_val (.int .i64 0) rfl pv_assign ?_
    refine wo_nil ?_
    refine wr_block ?_
    refine wr_is [(0, (.sl 4 (List.map rLeg a))), (1, (.sl 4 (List.map rLeg b))), (5, (.int .i64 0))] (.cons rfl (.cons rfl (.cons rfl .nil))) ?_
    refine wf_each' (P := Try.prog) a (fun j a1 => fun _ => ref11_SameLegs_b1 b j a1) ((alt (fun _ => .ok true) (fun r => .ok r)) : (Unit ⊕ Bool) → R Bool)
      (fun j => fun _ => fun (fr : Nat → AV) (h : AHeap) => fr = frA [(0, (.sl 4 (List.map rLeg a))), (1, (.sl 4 (List.map rLeg b))), (5, (.int .i64 (j : Int)))] ∧ h = hp h0 ids []) () ?_ ?_ ?_
    · exact ⟨rfl, rfl⟩
    · rintro j a1 ha1 W hW _ fr h ⟨rfl, rfl⟩
      refine wr_mod (m' := ref11_SameLegs_b1 b j a1) rfl (wr_mod (ref11_SameLegs_b1.eq_1 _ _ _) ?_)
      refine wr_seq ?_
      refine wr_seq ?_
      refine wr_region ?_
      refine wo_val (.int .i64 (j : Int)) rfl pv_move ?_
      refine wo_val (.sl 4 (List.map rLeg a)) rfl pv_move ?_
      refine wo_val (.int .i64 (a.length : Int)) rfl (pv_len (len_sl ti39)) ?_
      refine wo_val (.bool (decide ((j : Int) < (a.length : Int)))) rfl (pv_bin rfl rfl rfl) ?_
      refine wo_nil ?_
      refine wr_lim (t := 0) (L := a) rfl fun hlim => ?_
      refine wr_condT rfl (Int.ofNat_lt.2 (lt_of_get ha1)) ?_
      refine wr_skip ?_
      refine wr_seq ?_
      refine wr_block ?_
      refine wr_seq ?_
      refine wf_join (fun x => ref11_SameLegs_j1 x) (fun x => fun (fr : Nat → AV) (h : AHeap) => fr = frA [(0, (.sl 4 (List.map rLeg a))), (1, (.sl 4 (List.map rLeg b))), (5, (.int .i64 (j : Int))), (67, (.bool x))] ∧ h = hp h0 ids []) ?_ fun hJ => ?_
      · rintro x fr h ⟨rfl, rfl⟩
        refine wr_mod (ref11_SameLegs_j1.eq_1 _) ?_
        refine wf_iteb rfl (fun hc1 => ?_) (fun hc1 => ?_)
        · refine wr_seq ?_
          refine wr_region ?_
          refine wo_val (.bool false) rfl pv_assign ?_
          refine wo_nil ?_
          refine wx_each ?_
          refine w_altr ?_
          exact wr_ret (a := false) (vs := [(.bool false)]) Try.func15 hI rfl (.same _)
        · refine wr_skip ?_
          refine wr_inBlock ?_
          refine wr_region ?_
          refine wo_val (.int .i64 (j : Int)) rfl pv_move ?_
          refine wo_val (.int .i64 (IntKind.wrap .i64 ((j : Int) + 1))) rfl (pv_bin rfl rfl rfl) ?_
          refine wo_val (.int .i64 (IntKind.wrap .i64 ((j : Int) + 1))) rfl pv_assign ?_
          refine wo_nil ?_
          refine wr_is [(0, (.sl 4 (List.map rLeg a))), (1, (.sl 4 (List.map rLeg b))), (5, (.int .i64 ((j + 1 : Nat) : Int)))] (.cons rfl (.cons rfl (.cons (inc_ok (lt_of_get ha1) hlim) .nil))) ?_
          refine wb_each ?_
          refine hW () _ _ ?_
          exact ⟨rfl, rfl⟩
      · refine wr_draw hmix [[], [], [0, 1], [0, 1, 2], [0, 1, 2, 3], [], [], [5, 6], [5, 6, 7], [5, 6, 7, 8], [0, 1, 2, 3, 4, 5, 6, 7, 8, 9], [0, 1, 2, 3, 4, 5, 6, 7, 8, 9, 10], [0, 1, 2, 3, 4, 5, 6, 7, 8, 9, 10, 11], [0, 1, 2, 3, 4, 5, 6, 7, 8, 9, 10, 11], [0, 1, 2, 3, 4, 5, 6, 7, 8, 9, 10, 11, 12, 13], [0, 1, 2, 3, 4, 5, 6, 7, 8, 9, 10, 11, 12, 13, 14], [0, 1, 2, 3, 4, 5, 6, 7, 8, 9, 10, 11, 12, 13, 14, 15], [0, 1, 2, 3, 4, 5, 6, 7, 8, 9, 10, 11], [0, 1, 2, 3, 4, 5, 6, 7, 8, 9, 10, 11], [0, 1, 2, 3, 4, 5, 6, 7, 8, 9, 10, 11, 17, 18], [0, 1, 2, 3, 4, 5, 6, 7, 8, 9, 10, 11, 17, 18, 19], [0, 1, 2, 3, 4, 5, 6, 7, 8, 9, 10, 11, 17, 18, 19, 20], [0, 1, 2, 3, 4, 5, 6, 7, 8, 9, 10, 11, 12, 13, 14, 15, 16, 17, 18, 19, 20, 21], [0, 1, 2, 3, 4, 5, 6, 7, 8, 9, 10, 11, 12, 13, 14, 15, 16, 17, 18, 19, 20, 21, 22], [0, 1, 2, 3, 4, 5, 6, 7, 8, 9, 10, 11, 12, 13, 14, 15, 16, 17, 18, 19, 20, 21, 22, 23], [0, 1, 2, 3, 4, 5, 6, 7, 8, 9, 10, 11, 12, 13, 14, 15, 16, 17, 18, 19, 20, 21, 22, 23, 24], [0, 1, 2, 3, 4, 5, 6, 7, 8, 9, 10, 11, 12, 13, 14, 15, 16, 17, 18, 19, 20, 21, 22, 23, 24], [0, 1, 2, 3, 4, 5, 6, 7, 8, 9, 10, 11, 12, 13, 14, 15, 16, 17, 18, 19, 20, 21, 22, 23, 24, 25, 26], [0, 1, 2, 3, 4, 5, 6, 7, 8, 9, 10, 11, 12, 13, 14, 15, 16, 17, 18, 19, 20, 21, 22, 23, 24, 25, 26, 27], [0, 1, 2, 3, 4, 5, 6, 7, 8, 9, 10, 11, 12, 13, 14, 15, 16, 17, 18, 19, 20, 21, 22, 23, 24, 25, 26, 27, 28], [0, 1, 2, 3, 4, 5, 6, 7, 8, 9, 10, 11, 12, 13, 14, 15, 16, 17, 18, 19, 20, 21, 22, 23, 24], [0, 1, 2, 3, 4, 5, 6, 7, 8, 9, 10, 11, 12, 13, 14, 15, 16, 17, 18, 19, 20, 21, 22, 23, 24], [0, 1, 2, 3, 4, 5, 6, 7, 8, 9, 10, 11, 12, 13, 14, 15, 16, 17, 18, 19, 20, 21, 22, 23, 24, 30, 31], [0, 1, 2, 3, 4, 5, 6, 7, 8, 9, 10, 11, 12, 13, 14, 15, 16, 17, 18, 19, 20, 21, 22, 23, 24, 30, 31, 32], [0, 1, 2, 3, 4, 5, 6, 7, 8, 9, 10, 11, 12, 13, 14, 15, 16, 17, 18, 19, 20, 21, 22, 23, 24, 30, 31, 32, 33], [0, 1, 2, 3, 4, 5, 6, 7, 8, 9, 10, 11, 12, 13, 14, 15, 16, 17, 18, 19, 20, 21, 22, 23, 24, 25, 26, 27, 28, 29, 30, 31, 32, 33, 34], [0, 1, 2, 3, 4, 5, 6, 7, 8, 9, 10, 11, 12, 13, 14, 15, 16, 17, 18, 19, 20, 21, 22, 23, 24, 25, 26, 27, 28, 29, 30, 31, 32, 33, 34, 35], [0, 1, 2, 3, 4, 5, 6, 7, 8, 9, 10, 11, 12, 13, 14, 15, 16, 17, 18, 19, 20, 21, 22, 23, 24, 25, 26, 27, 28, 29, 30, 31, 32, 33, 34, 35, 36], [0, 1, 2, 3, 4, 5, 6, 7, 8, 9, 10, 11, 12, 13, 14, 15, 16, 17, 18, 19, 20, 21, 22, 23, 24, 25, 26, 27, 28, 29, 30, 31, 32, 33, 34, 35, 36, 37], [0, 1, 2, 3, 4, 5, 6, 7, 8, 9, 10, 11, 12, 13, 14, 15, 16, 17, 18, 19, 20, 21, 22, 23, 24, 25, 26, 27, 28, 29, 30, 31, 32, 33, 34, 35, 36, 37], [0, 1, 2, 3, 4, 5, 6, 7, 8, 9, 10, 11, 12, 13, 14, 15, 16, 17, 18, 19, 20, 21, 22, 23, 24, 25, 26, 27, 28, 29, 30, 31, 32, 33, 34, 35, 36, 37, 38, 39], [0, 1, 2, 3, 4, 5, 6, 7, 8, 9, 10, 11, 12, 13, 14, 15, 16, 17, 18, 19, 20, 21, 22, 23, 24, 25, 26, 27, 28, 29, 30, 31, 32, 33, 34, 35, 36, 37, 38, 39, 40], [0, 1, 2, 3, 4, 5, 6, 7, 8, 9, 10, 11, 12, 13, 14, 15, 16, 17, 18, 19, 20, 21, 22, 23, 24, 25, 26, 27, 28, 29, 30, 31, 32, 33, 34, 35, 36, 37, 38, 39, 40, 41], [0, 1, 2, 3, 4, 5, 6, 7, 8, 9, 10, 11, 12, 13, 14, 15, 16, 17, 18, 19, 20, 21, 22, 23, 24, 25, 26, 27, 28, 29, 30, 31, 32, 33, 34, 35, 36, 37], [0, 1, 2, 3, 4, 5, 6, 7, 8, 9, 10, 11, 12, 13, 14, 15, 16, 17, 18, 19, 20, 21, 22, 23, 24, 25, 26, 27, 28, 29, 30, 31, 32, 33, 34, 35, 36, 37], [0, 1, 2, 3, 4, 5, 6, 7, 8, 9, 10, 11, 12, 13, 14, 15, 16, 17, 18, 19, 20, 21, 22, 23, 24, 25, 26, 27, 28, 29, 30, 31, 32, 33, 34, 35, 36, 37, 43, 44], [0, 1, 2, 3, 4, 5, 6, 7, 8, 9, 10, 11, 12, 13, 14, 15, 16, 17, 18, 19, 20, 21, 22, 23, 24, 25, 26, 27, 28, 29, 30, 31, 32, 33, 34, 35, 36, 37, 43, 44, 45], [0, 1, 2, 3, 4, 5, 6, 7, 8, 9, 10, 11, 12, 13, 14, 15, 16, 17, 18, 19, 20, 21, 22, 23, 24, 25, 26, 27, 28, 29, 30, 31, 32, 33, 34, 35, 36, 37, 43, 44, 45, 46], [0, 1, 2, 3, 4, 5, 6, 7, 8, 9, 10, 11, 12, 13, 14, 15, 16, 17, 18, 19, 20, 21, 22, 23, 24, 25, 26, 27, 28, 29, 30, 31, 32, 33, 34, 35, 36, 37, 38, 39, 40, 41, 42, 43, 44, 45, 46, 47], [0, 1, 2, 3, 4, 5, 6, 7, 8, 9, 10, 11, 12, 13, 14, 15, 16, 17, 18, 19, 20, 21, 22, 23, 24, 25, 26, 27, 28, 29, 30, 31, 32, 33, 34, 35, 36, 37, 38, 39, 40, 41, 42, 43, 44, 45, 46, 47, 48], [0, 1, 2, 3, 4, 5, 6, 7, 8, 9, 10, 11, 12, 13, 14, 15, 16, 17, 18, 19, 20, 21, 22, 23, 24, 25, 26, 27, 28, 29, 30, 31, 32, 33, 34, 35, 36, 37, 38, 39, 40, 41, 42, 43, 44, 45, 46, 47, 48, 49]] [(false, 0), (false, 1), (false, 2), (false, 3), (false, 4), (false, 5), (false, 6), (false, 7), (false, 8), (false, 9), (false, 10), (false, 11), (false, 12), (false, 13), (false, 14), (false, 15), (false, 16), (false, 17), (false, 18), (false, 19), (false, 20), (false, 21), (false, 22), (false, 23), (false, 24), (false, 25), (false, 26), (false, 27), (false, 28), (false, 29), (false, 30), (false, 31), (false, 32), (false, 33), (false, 34), (false, 35), (false, 36), (false, 37), (false, 38), (false, 39), (false, 40), (false, 41), (false, 42), (false, 43), (false, 44), (false, 45), (false, 46), (false, 47), (true, 48), (false, 49), (false, 50)] (by kernel_rfl) ?_
        refine wp_val (.sl 4 (List.map rLeg a)) rfl rfl pv_move ?_
        refine wp_val (.int .i64 (j : Int)) rfl rfl pv_move ?_
        refine wp_val (.cp (rLeg a1) 0) rfl rfl (pv_ixa (ixa_nat ti39 ti52 rfl ha1)) ?_
        refine wp_val (.cp (rLeg a1) 0) rfl rfl (pv_fa (fa_cp (c := 0) (off := 0) (i := 0) ti52 rfl ti3 rfl)) ?_
        refine wp_val (.int .i64 a1.Segment) rfl rfl (pv_load (ld_cp ti3 rfl)) ?_
        refine wp_val (.sl 4 (List.map rLeg b)) rfl rfl pv_move ?_
        refine wp_val (.int .i64 (j : Int)) rfl rfl pv_move ?_
        refine op_idx fun a2 hz hx1 => ?_
        refine wp_val (.cp (rLeg a2) 0) rfl rfl (pv_ixa (ixa_sl ti39 ti52 rfl hz hx1)) ?_
        refine wp_val (.cp (rLeg a2) 0) rfl rfl (pv_fa (fa_cp (c := 0) (off := 0) (i := 0) ti52 rfl ti3 rfl)) ?_
        refine wp_val (.int .i64 a2.Segment) rfl rfl (pv_load (ld_cp ti3 rfl)) ?_
        refine wp_val (.bool (a1.Segment != a2.Segment)) rfl rfl (pv_bin rfl rfl rfl) ?_
        refine wp_val (.bool (a1.Segment != a2.Segment)) rfl rfl pv_move ?_
        refine op_iteb (fun hb => ?_) (fun hb => ?_)
        · refine wp_not (tj := 28) (b := true) rfl rfl (congrArg AV.bool hb) rfl rfl ?_
          refine wp_not (tj := 28) (b := true) rfl rfl (congrArg AV.bool hb) rfl rfl ?_
          refine wp_not (tj := 28) (b := true) rfl rfl (congrArg AV.bool hb) rfl rfl ?_
          refine wp_not (tj := 28) (b := true) rfl rfl (congrArg AV.bool hb) rfl rfl ?_
          refine wp_not (tj := 28) (b := true) rfl rfl (congrArg AV.bool hb) rfl rfl ?_
          refine wp_not (tj := 28) (b := true) rfl rfl (congrArg AV.bool hb) rfl rfl ?_
          refine wp_not (tj := 28) (b := true) rfl rfl (congrArg AV.bool hb) rfl rfl ?_
          refine wp_not (tj := 28) (b := true) rfl rfl (congrArg AV.bool hb) rfl rfl ?_
          refine wp_not (tj := 28) (b := true) rfl rfl (congrArg AV.bool hb) rfl rfl ?_
          refine wp_not (tj := 28) (b := true) rfl rfl (congrArg AV.bool hb) rfl rfl ?_
          refine wp_not (tj := 28) (b := true) rfl rfl (congrArg AV.bool hb) rfl rfl ?_
          refine wp_val (.bool true) rfl rfl (pv_pick (t := true) (congrArg AV.bool hb) rfl) ?_
          refine wp_val (.bool true) rfl rfl pv_move ?_
          refine wp_not (tj := 41) (b := true) rfl rfl rfl rfl rfl ?_
          refine wp_not (tj := 41) (b := true) rfl rfl rfl rfl rfl ?_
          refine wp_not (tj := 41) (b := true) rfl rfl rfl rfl rfl ?_
          refine wp_not (tj := 41) (b := true) rfl rfl rfl rfl rfl ?_
          refine wp_not (tj := 41) (b := true) rfl rfl rfl rfl rfl ?_
          refine wp_not (tj := 41) (b := true) rfl rfl rfl rfl rfl ?_
          refine wp_not (tj := 41) (b := true) rfl rfl rfl rfl rfl ?_
          refine wp_not (tj := 41) (b := true) rfl rfl rfl rfl rfl ?_
          refine wp_not (tj := 41) (b := true) rfl rfl rfl rfl rfl ?_
          refine wp_not (tj := 41) (b := true) rfl rfl rfl rfl rfl ?_
          refine wp_not (tj := 41) (b := true) rfl rfl rfl rfl rfl ?_
          refine wp_val (.bool true) rfl rfl (pv_pick (t := true) rfl rfl) ?_
          refine wp_val (.bool true) rfl rfl pv_move ?_
          refine wp_not (tj := 54) (b := true) rfl rfl rfl rfl rfl ?_
          refine wp_not (tj := 54) (b := true) rfl rfl rfl rfl rfl ?_
          refine wp_not (tj := 54) (b := true) rfl rfl rfl rfl rfl ?_
          refine wp_not (tj := 54) (b := true) rfl rfl rfl rfl rfl ?_
          refine wp_not (tj := 54) (b := true) rfl rfl rfl rfl rfl ?_
          refine wp_not (tj := 54) (b := true) rfl rfl rfl rfl rfl ?_
          refine wp_not (tj := 54) (b := true) rfl rfl rfl rfl rfl ?_
          refine wp_not (tj := 54) (b := true) rfl rfl rfl rfl rfl ?_
          refine wp_not (tj := 54) (b := true) rfl rfl rfl rfl rfl ?_
          refine wp_not (tj := 54) (b := true) rfl rfl rfl rfl rfl ?_
          refine wp_notE (tj := 54) (b := true) rfl rfl rfl rfl rfl ?_
          refine wp_not (tj := 54) (b := true) rfl rfl rfl rfl rfl ?_
          refine wp_val (.bool true) rfl rfl (pv_pick (t := true) rfl rfl) ?_
          refine wp_nil ?_
          refine wr_is [(0, (.sl 4 (List.map rLeg a))), (1, (.sl 4 (List.map rLeg b))), (5, (.int .i64 (j : Int))), (67, (.bool true))] (.cons rfl (.cons rfl (.cons rfl (.cons rfl .nil)))) ?_
          refine hJ true _ _ ?_
          exact ⟨rfl, rfl⟩
        · refine wp_valg (tj := 28) (.sl 4 (List.map rLeg a)) rfl rfl (congrArg AV.bool hb) rfl pv_move ?_
          refine wp_valg (tj := 28) (.int .i64 (j : Int)) rfl rfl (congrArg AV.bool hb) rfl pv_move ?_
          refine wp_valg (tj := 28) (.cp (rLeg a1) 0) rfl rfl (congrArg AV.bool hb) rfl (pv_ixa (ixa_nat ti39 ti52 rfl ha1)) ?_
          refine wp_valg (tj := 28) (.cp (rLeg a1) 1) rfl rfl (congrArg AV.bool hb) rfl (pv_fa (fa_cp (c := 0) (off := 1) (i := 1) ti52 rfl ti3 rfl)) ?_
          refine wp_valg (tj := 28) (.int .i64 a1.Volume) rfl rfl (congrArg AV.bool hb) rfl (pv_load (ld_cp ti3 rfl)) ?_
          refine wp_valg (tj := 28) (.sl 4 (List.map rLeg b)) rfl rfl (congrArg AV.bool hb) rfl pv_move ?_
          refine wp_valg (tj := 28) (.int .i64 (j : Int)) rfl rfl (congrArg AV.bool hb) rfl pv_move ?_
          refine wp_valg (tj := 28) (.cp (rLeg a2) 0) rfl rfl (congrArg AV.bool hb) rfl (pv_ixa (ixa_sl ti39 ti52 rfl hz hx1)) ?_
          refine wp_valg (tj := 28) (.cp (rLeg a2) 1) rfl rfl (congrArg AV.bool hb) rfl (pv_fa (fa_cp (c := 0) (off := 1) (i := 1) ti52 rfl ti3 rfl)) ?_
          refine wp_valg (tj := 28) (.int .i64 a2.Volume) rfl rfl (congrArg AV.bool hb) rfl (pv_load (ld_cp ti3 rfl)) ?_
          refine wp_valg (tj := 28) (.bool (a1.Volume != a2.Volume)) rfl rfl (congrArg AV.bool hb) rfl (pv_bin rfl rfl rfl) ?_
          refine wp_val (.bool (a1.Volume != a2.Volume)) rfl rfl (pv_pick (t := false) (congrArg AV.bool hb) rfl) ?_
          refine wp_val (.bool (a1.Volume != a2.Volume)) rfl rfl pv_move ?_
          refine op_iteb (fun hb1 => ?_) (fun hb1 => ?_)
          · refine wp_not (tj := 41) (b := true) rfl rfl (congrArg AV.bool hb1) rfl rfl ?_
            refine wp_not (tj := 41) (b := true) rfl rfl (congrArg AV.bool hb1) rfl rfl ?_
            refine wp_not (tj := 41) (b := true) rfl rfl (congrArg AV.bool hb1) rfl rfl ?_
            refine wp_not (tj := 41) (b := true) rfl rfl (congrArg AV.bool hb1) rfl rfl ?_
            refine wp_not (tj := 41) (b := true) rfl rfl (congrArg AV.bool hb1) rfl rfl ?_
            refine wp_not (tj := 41) (b := true) rfl rfl (congrArg AV.bool hb1) rfl rfl ?_
            refine wp_not (tj := 41) (b := true) rfl rfl (congrArg AV.bool hb1) rfl rfl ?_
            refine wp_not (tj := 41) (b := true) rfl rfl (congrArg AV.bool hb1) rfl rfl ?_
            refine wp_not (tj := 41) (b := true) rfl rfl (congrArg AV.bool hb1) rfl rfl ?_
            refine wp_not (tj := 41) (b := true) rfl rfl (congrArg AV.bool hb1) rfl rfl ?_
            refine wp_not (tj := 41) (b := true) rfl rfl (congrArg AV.bool hb1) rfl rfl ?_
            refine wp_val (.bool true) rfl rfl (pv_pick (t := true) (congrArg AV.bool hb1) rfl) ?_
            refine wp_val (.bool true) rfl rfl pv_move ?_
            refine wp_not (tj := 54) (b := true) rfl rfl rfl rfl rfl ?_
            refine wp_not (tj := 54) (b := true) rfl rfl rfl rfl rfl ?_
            refine wp_not (tj := 54) (b := true) rfl rfl rfl rfl rfl ?_
            refine wp_not (tj := 54) (b := true) rfl rfl rfl rfl rfl ?_
            refine wp_not (tj := 54) (b := true) rfl rfl rfl rfl rfl ?_
            refine wp_not (tj := 54) (b := true) rfl rfl rfl rfl rfl ?_
            refine wp_not (tj := 54) (b := true) rfl rfl rfl rfl rfl ?_
            refine wp_not (tj := 54) (b := true) rfl rfl rfl rfl rfl ?_
            refine wp_not (tj := 54) (b := true) rfl rfl rfl rfl rfl ?_
            refine wp_not (tj := 54) (b := true) rfl rfl rfl rfl rfl ?_
            refine wp_notE (tj := 54) (b := true) rfl rfl rfl rfl rfl ?_
            refine wp_not (tj := 54) (b := true) rfl rfl rfl rfl rfl ?_
            refine wp_val (.bool true) rfl rfl (pv_pick (t := true) rfl rfl) ?_
            refine wp_nil ?_
            refine wr_is [(0, (.sl 4 (List.map rLeg a))), (1, (.sl 4 (List.map rLeg b))), (5, (.int .i64 (j : Int))), (67, (.bool true))] (.cons rfl (.cons rfl (.cons rfl (.cons rfl .nil)))) ?_
            refine hJ true _ _ ?_
            exact ⟨rfl, rfl⟩
          · refine wp_valg (tj := 41) (.sl 4 (List.map rLeg a)) rfl rfl (congrArg AV.bool hb1) rfl pv_move ?_
            refine wp_valg (tj := 41) (.int .i64 (j : Int)) rfl rfl (congrArg AV.bool hb1) rfl pv_move ?_
            refine wp_valg (tj := 41) (.cp (rLeg a1) 0) rfl rfl (congrArg AV.bool hb1) rfl (pv_ixa (ixa_nat ti39 ti52 rfl ha1)) ?_
            refine wp_valg (tj := 41) (.cp (rLeg a1) 2) rfl rfl (congrArg AV.bool hb1) rfl (pv_fa (fa_cp (c := 0) (off := 2) (i := 2) ti52 rfl ti3 rfl)) ?_
            refine wp_valg (tj := 41) (.int .i64 a1.Length) rfl rfl (congrArg AV.bool hb1) rfl (pv_load (ld_cp ti3 rfl)) ?_
            refine wp_valg (tj := 41) (.sl 4 (List.map rLeg b)) rfl rfl (congrArg AV.bool hb1) rfl pv_move ?_
            refine wp_valg (tj := 41) (.int .i64 (j : Int)) rfl rfl (congrArg AV.bool hb1) rfl pv_move ?_
            refine wp_valg (tj := 41) (.cp (rLeg a2) 0) rfl rfl (congrArg AV.bool hb1) rfl (pv_ixa (ixa_sl ti39 ti52 rfl hz hx1)) ?_
            refine wp_valg (tj := 41) (.cp (rLeg a2) 2) rfl rfl (congrArg AV.bool hb1) rfl (pv_fa (fa_cp (c := 0) (off := 2) (i := 2) ti52 rfl ti3 rfl)) ?_
            refine wp_valg (tj := 41) (.int .i64 a2.Length) rfl rfl (congrArg AV.bool hb1) rfl (pv_load (ld_cp ti3 rfl)) ?_
            refine wp_valg (tj := 41) (.bool (a1.Length != a2.Length)) rfl rfl (congrArg AV.bool hb1) rfl (pv_bin rfl rfl rfl) ?_
            refine wp_val (.bool (a1.Length != a2.Length)) rfl rfl (pv_pick (t := false) (congrArg AV.bool hb1) rfl) ?_
            refine wp_val (.bool (a1.Length != a2.Length)) rfl rfl pv_move ?_
            refine op_iteb (fun hb2 => ?_) (fun hb2 => ?_)
            · refine wp_not (tj := 54) (b := true) rfl rfl (congrArg AV.bool hb2) rfl rfl ?_
              refine wp_not (tj := 54) (b := true) rfl rfl (congrArg AV.bool hb2) rfl rfl ?_
              refine wp_not (tj := 54) (b := true) rfl rfl (congrArg AV.bool hb2) rfl rfl ?_
              refine wp_not (tj := 54) (b := true) rfl rfl (congrArg AV.bool hb2) rfl rfl ?_
              refine wp_not (tj := 54) (b := true) rfl rfl (congrArg AV.bool hb2) rfl rfl ?_
              refine wp_not (tj := 54) (b := true) rfl rfl (congrArg AV.bool hb2) rfl rfl ?_
              refine wp_not (tj := 54) (b := true) rfl rfl (congrArg AV.bool hb2) rfl rfl ?_
              refine wp_not (tj := 54) (b := true) rfl rfl (congrArg AV.bool hb2) rfl rfl ?_
              refine wp_not (tj := 54) (b := true) rfl rfl (congrArg AV.bool hb2) rfl rfl ?_
              refine wp_not (tj := 54) (b := true) rfl rfl (congrArg AV.bool hb2) rfl rfl ?_
              refine wp_notE (tj := 54) (b := true) rfl rfl (congrArg AV.bool hb2) rfl rfl ?_
              refine wp_not (tj := 54) (b := true) rfl rfl (congrArg AV.bool hb2) rfl rfl ?_
              refine wp_val (.bool true) rfl rfl (pv_pick (t := true) (congrArg AV.bool hb2) rfl) ?_
              refine wp_nil ?_
              refine wr_is [(0, (.sl 4 (List.map rLeg a))), (1, (.sl 4 (List.map rLeg b))), (5, (.int .i64 (j : Int))), (67, (.bool true))] (.cons rfl (.cons rfl (.cons rfl (.cons rfl .nil)))) ?_
              refine hJ true _ _ ?_
              exact ⟨rfl, rfl⟩
            · refine wp_valg (tj := 54) (.sl 4 (List.map rLeg a)) rfl rfl (congrArg AV.bool hb2) rfl pv_move ?_
              refine wp_valg (tj := 54) (.int .i64 (j : Int)) rfl rfl (congrArg AV.bool hb2) rfl pv_move ?_
              refine wp_valg (tj := 54) (.cp (rLeg a1) 0) rfl rfl (congrArg AV.bool hb2) rfl (pv_ixa (ixa_nat ti39 ti52 rfl ha1)) ?_
              refine wp_valg (tj := 54) (.cp (rLeg a1) 3) rfl rfl (congrArg AV.bool hb2) rfl (pv_fa (fa_cp (c := 0) (off := 3) (i := 3) ti52 rfl ti35 rfl)) ?_
              refine wp_valg (tj := 54) (.sl 2 (List.map rSpan a1.Minutes)) rfl rfl (congrArg AV.bool hb2) rfl (pv_load (ld_cp ti35 rfl)) ?_
              refine wp_valg (tj := 54) (.sl 4 (List.map rLeg b)) rfl rfl (congrArg AV.bool hb2) rfl pv_move ?_
              refine wp_valg (tj := 54) (.int .i64 (j : Int)) rfl rfl (congrArg AV.bool hb2) rfl pv_move ?_
              refine wp_valg (tj := 54) (.cp (rLeg a2) 0) rfl rfl (congrArg AV.bool hb2) rfl (pv_ixa (ixa_sl ti39 ti52 rfl hz hx1)) ?_
              refine wp_valg (tj := 54) (.cp (rLeg a2) 3) rfl rfl (congrArg AV.bool hb2) rfl (pv_fa (fa_cp (c := 0) (off := 3) (i := 3) ti52 rfl ti35 rfl)) ?_
              refine wp_valg (tj := 54) (.sl 2 (List.map rSpan a2.Minutes)) rfl rfl (congrArg AV.bool hb2) rfl (pv_load (ld_cp ti35 rfl)) ?_
              refine wp_call [(.sl 2 (List.map rSpan a1.Minutes)), (.sl 2 (List.map rSpan a2.Minutes))] rfl (wanted_yes (tj := 54) rfl (congrArg AV.bool hb2)) rfl rfl rfl ((cp_ref11_SameSpans a1.Minutes a2.Minutes) _) (fun v _ _ _ => wu_pan Try.func15 hI) (pend_yes rfl (pend_yes rfl (pend_yes rfl (pend_yes rfl (pend_yes rfl (pend_yes rfl (pend_yes rfl (pend_yes rfl (pend_yes rfl (pend_yes rfl (pend_yes rfl (pend_yes rfl (pend_yes rfl (pend_yes rfl (pend_yes rfl (pend_yes rfl (pend_yes rfl (pend_yes rfl (pend_yes rfl (pend_yes rfl (pend_yes rfl (pend_yes rfl (pend_yes rfl (pend_yes rfl (pend_yes rfl (pend_yes rfl (pend_yes rfl (pend_yes rfl (pend_yes rfl (pend_yes rfl (pend_yes rfl (pend_yes rfl (pend_yes rfl (pend_yes rfl (pend_yes rfl (pend_yes rfl (pend_yes rfl (pend_yes rfl (pend_yes rfl (pend_yes rfl (pend_yes rfl (pend_yes rfl (pend_yes rfl (pend_yes rfl (pend_yes rfl (pend_yes rfl (pend_yes rfl (pend_yes rfl pend_nil)))))))))))))))))))))))))))))))))))))))))))))))) fun r _ => ?_
              refine wp_valg (tj := 54) (.bool (!r)) rfl rfl (congrArg AV.bool hb2) rfl (pv_un rfl) ?_
              refine wp_val (.bool (!r)) rfl rfl (pv_pick (t := false) (congrArg AV.bool hb2) rfl) ?_
              refine wp_nil ?_
              refine wr_is [(0, (.sl 4 (List.map rLeg a))), (1, (.sl 4 (List.map rLeg b))), (5, (.int .i64 (j : Int))), (67, (.bool (!r)))] (.cons rfl (.cons rfl (.cons rfl (.cons rfl .nil)))) ?_
              refine hJ (!r) _ _ ?_
              exact ⟨rfl, rfl⟩
    · rintro _ fr h ⟨rfl, rfl⟩
      refine wr_mod (alt_inl _ _ _) ?_
      refine wr_seq ?_
      refine wr_seq ?_
      refine wr_region ?_
      refine wo_val (.int .i64 (a.length : Int)) rfl pv_move ?_
      refine wo_val (.sl 4 (List.map rLeg a)) rfl pv_move ?_
      refine wo_val (.int .i64 (a.length : Int)) rfl (pv_len (len_sl ti39)) ?_
      refine wo_val (.bool (decide ((a.length : Int) < (a.length : Int)))) rfl (pv_bin rfl rfl rfl) ?_
      refine wo_nil ?_
      refine wr_condF rfl (Int.lt_irrefl _) ?_
      refine wr_exit rfl ?_
      refine wr_seq ?_
      refine wr_region ?_
      refine wo_val (.bool true) rfl pv_assign ?_
      refine wo_nil ?_
      exact wr_ret (a := true) (vs := [(.bool true)]) Try.func15 hI rfl (.same _)

theorem cp_law11_OpeningMinutesSpec (a : Airspace) (n : Int) : CP Try.prog 3 [(.agg (rAirspace a)), (.int .i64 n)] (law11_OpeningMinutesSpec a n) (fun (x : Bool) => (AV.bool x)) := by
  refine cp_intro (n := 92) 1 Try.func3 rfl (by decide) rfl rfl fun h0 ids hI => ?_
  refine wr_in (wr_mod (law11_OpeningMinutesSpec.eq_1 _ _) ?_)
  refine wr_seq ?_
  refine wr_region ?_
  refine wo_box (v := (.agg (rAirspace a))) (j := 0) hI rfl rfl rfl rfl rfl rfl rfl fun g => ?_
  refine wo_val (.bool false) rfl pv_assign ?_
  refine wo_nil ?_
  refine wr_hp [(some (.rows g 8 [(rAirspace a)]))] rfl ?_
  refine wr_seq ?_
  refine wr_seq ?_
  refine wr_region ?_
  refine of_call [] rfl rfl rfl rfl ((cp_law11_sane) _) (fun v _ => wu_pan Try.func3 hI) fun r _ => ?_
  refine wo_val (.bool (!r)) rfl (pv_un rfl) ?_
  refine wo_nil ?_
  refine wf_itebn rfl (fun hc => ?_) (fun hc => ?_)
  · refine wr_skip ?_
    refine wr_seq ?_
    refine wr_seq ?_
    refine wr_region ?_
    refine wo_val (.agg (rAirspace a)) rfl (pv_load (ld_ptr hI rfl rfl rfl ti31 rfl)) ?_
    refine of_call [(.agg (rAirspace a))] rfl rfl rfl rfl ((cp_ref11_Few a) _) (fun v _ => wu_pan Try.func3 hI) fun r1 _ => ?_
    refine wo_val (.bool (!r1)) rfl (pv_un rfl) ?_
    refine wo_nil ?_
    refine wf_itebn rfl (fun hc1 => ?_) (fun hc1 => ?_)
    · refine wr_skip ?_
      refine wr_seq ?_
      refine wr_region ?_
      refine wo_val (.int .i64 n) rfl pv_move ?_
      refine wo_val (.ptr (ix ids 0) g 0 3) rfl (pv_fa (fa_ptr (c := 0) (off := 3) (i := 3) ti31 rfl ti25 rfl)) ?_
      refine wo_val (.sl 5 (List.map rSegment a.Segments)) rfl (pv_load (ld_ptr hI rfl rfl rfl ti25 rfl)) ?_
      refine wo_val (.int .i64 (a.Segments.length : Int)) rfl (pv_len (len_sl ti25)) ?_
      refine wo_val (.int .i64 (IntKind.wrap .i64 ((a.Segments.length : Int) - 1))) rfl (pv_bin rfl rfl rfl) ?_
      refine wo_val (.ptr (ix ids 0) g 0 4) rfl (pv_fa (fa_ptr (c := 0) (off := 4) (i := 4) ti31 rfl ti26 rfl)) ?_
      refine wo_val (.sl 7 (List.map rRoute a.Routes)) rfl (pv_load (ld_ptr hI rfl rfl rfl ti26 rfl)) ?_
      refine wo_val (.int .i64 (a.Routes.length : Int)) rfl (pv_len (len_sl ti26)) ?_
      refine wo_val (.int .i64 (IntKind.wrap .i64 ((a.Routes.length : Int) - 1))) rfl (pv_bin rfl rfl rfl) ?_
      refine wo_bsC (e := (rI .i64)) (L := [n, 0, 1, (IntKind.wrap .i64 ((a.Segments.length : Int) - 1)), (IntKind.wrap .i64 ((a.Routes.length : Int) - 1))]) (st := 1) (rows := [[(.int .i64 n)], [(.int .i64 0)], [(.int .i64 1)], [(.int .i64 (IntKind.wrap .i64 ((a.Segments.length : Int) - 1)))], [(.int .i64 (IntKind.wrap .i64 ((a.Routes.length : Int) - 1)))]]) rfl ti34 ti3 rfl rfl rfl rfl rfl (.cons (RowSim.refl _) (.cons (RowSim.refl _) (.cons (RowSim.refl _) (.cons (RowSim.refl _) (.cons (RowSim.refl _) .nil))))) (fun x => ok_I x) rfl rfl ?_
      refine wo_val (.sl 1 (List.map (rI .i64) [n, 0, 1, (IntKind.wrap .i64 ((a.Segments.length : Int) - 1)), (IntKind.wrap .i64 ((a.Routes.length : Int) - 1))])) rfl pv_assign ?_
      refine wo_nil ?_
      refine wr_seq ?_
      refine wr_seq ?_
      refine wr_region ?_
      refine wo_val (.int .i64 0) rfl pv_assign ?_
      refine wo_nil ?_
      refine wr_block ?_
      refine wr_is [(2, (.ptr (ix ids 0) g 0 0)), (5, (.sl 1 (List.map (rI .i64) [n, 0, 1, (IntKind.wrap .i64 ((a.Segments.length : Int) - 1)), (IntKind.wrap .i64 ((a.Routes.length : Int) - 1))]))), (6, (.int .i64 0))] (.cons rfl (.cons rfl (.cons rfl .nil))) ?_
      refine wf_each' (P := Try.prog) [n, 0, 1, (IntKind.wrap .i64 ((a.Segments.length : Int) - 1)), (IntKind.wrap .i64 ((a.Routes.length : Int) - 1))] (fun _ a1 => fun _ => law11_OpeningMinutesSpec_b1 a a1) ((alt (fun _ => .ok true) (fun r => .ok r)) : (Unit ⊕ Bool) → R Bool)
        (fun j => fun _ => fun (fr : Nat → AV) (h : AHeap) => fr = frA [(2, (.ptr (ix ids 0) g 0 0)), (5, (.sl 1 (List.map (rI .i64) [n, 0, 1, (IntKind.wrap .i64 ((a.Segments.length : Int) - 1)), (IntKind.wrap .i64 ((a.Routes.length : Int) - 1))]))), (6, (.int .i64 (j : Int)))] ∧ h = hp h0 ids [(some (.rows g 8 [(rAirspace a)]))]) () ?_ ?_ ?_
      · exact ⟨rfl, rfl⟩
      · rintro j a1 ha1 W hW _ fr h ⟨rfl, rfl⟩
        refine wr_mod (m' := law11_OpeningMinutesSpec_b1 a a1) rfl (wr_mod (law11_OpeningMinutesSpec_b1.eq_1 _ _) ?_)
        refine wr_seq ?_
        refine wr_seq ?_
        refine wr_region ?_
        refine wo_val (.int .i64 (j : Int)) rfl pv_move ?_
        refine wo_val (.sl 1 (List.map (rI .i64) [n, 0, 1, (IntKind.wrap .i64 ((a.Segments.length : Int) - 1)), (IntKind.wrap .i64 ((a.Routes.length : Int) - 1))])) rfl pv_move ?_
        refine wo_val (.int .i64 ([n, 0, 1, (IntKind.wrap .i64 ((a.Segments.length : Int) - 1)), (IntKind.wrap .i64 ((a.Routes.length : Int) - 1))].length : Int)) rfl (pv_len (len_sl ti34)) ?_
        refine wo_val (.bool (decide ((j : Int) < ([n, 0, 1, (IntKind.wrap .i64 ((a.Segments.length : Int) - 1)), (IntKind.wrap .i64 ((a.Routes.length : Int) - 1))].length : Int)))) rfl (pv_bin rfl rfl rfl) ?_
        refine wo_nil ?_
        refine wr_lim (t := 5) (L := [n, 0, 1, (IntKind.wrap .i64 ((a.Segments.length : Int) - 1)), (IntKind.wrap .i64 ((a.Routes.length : Int) - 1))]) rfl fun hlim => ?_
        refine wr_condT rfl (Int.ofNat_lt.2 (lt_of_get ha1)) ?_
        refine wr_skip ?_
        refine wr_seq ?_
        refine wr_block ?_
        refine wr_seq ?_
        refine wr_draw hmix [[], [], [], [1, 2], [1, 2, 3], [0, 1, 2, 3, 4], [0, 1, 2, 3, 4, 5], [0, 1, 2, 3, 4, 5, 6], [0, 1, 2, 3, 4, 5, 6], [0, 1, 2, 3, 4, 5, 5, 6, 7, 7], [0, 1, 2, 3, 4, 5, 6, 7, 8, 8, 9, 9]] [(false, 0), (false, 1), (false, 2), (false, 3), (false, 4), (true, 5), (false, 6), (false, 7), (false, 8), (false, 9), (false, 10)] (by kernel_rfl) ?_
        refine wp_val (.agg (rAirspace a)) rfl rfl (pv_load (ld_ptr hI rfl rfl rfl ti31 rfl)) ?_
        refine wp_val (.sl 1 (List.map (rI .i64) [n, 0, 1, (IntKind.wrap .i64 ((a.Segments.length : Int) - 1)), (IntKind.wrap .i64 ((a.Routes.length : Int) - 1))])) rfl rfl pv_move ?_
        refine wp_val (.int .i64 (j : Int)) rfl rfl pv_move ?_
        refine wp_val (.cp [(.int .i64 a1)] 0) rfl rfl (pv_ixa (ixa_nat ti34 ti3 rfl ha1)) ?_
        refine wp_val (.int .i64 a1) rfl rfl (pv_load (ld_cp ti3 rfl)) ?_
        refine wp_call [(.agg (rAirspace a)), (.int .i64 a1)] rfl rfl rfl rfl rfl ((cp_opening_Minutes a a1) _) (fun v _ _ _ => wu_pan Try.func3 hI) (pend_yes rfl (pend_yes rfl (pend_yes rfl (pend_yes rfl (pend_yes rfl pend_nil))))) fun r2 _ => ?_
        refine wp_val (.tup [(.sl 2 (List.map rSpan r2.1)), (.int .i64 r2.2)]) rfl rfl pv_move ?_
        refine wp_val (.sl 2 (List.map rSpan r2.1)) rfl rfl (pv_ext rfl) ?_
        refine wp_val (.int .i64 r2.2) rfl rfl (pv_ext rfl) ?_
        refine wp_val (.sl 2 (List.map rSpan r2.1)) rfl rfl pv_assign ?_
        refine wp_val (.int .i64 r2.2) rfl rfl pv_assign ?_
        refine wp_nil ?_
        refine wr_seq ?_
        refine wr_draw hmix [[], [], [], [1, 2], [1, 2, 3], [0, 1, 2, 3, 4], [0, 1, 2, 3, 4, 5], [0, 1, 2, 3, 4, 5, 6], [0, 1, 2, 3, 4, 5, 6], [0, 1, 2, 3, 4, 5, 5, 6, 7, 7], [0, 1, 2, 3, 4, 5, 6, 7, 8, 8, 9, 9]] [(false, 0), (false, 1), (false, 2), (false, 3), (false, 4), (true, 5), (false, 6), (false, 7), (false, 8), (false, 9), (false, 10)] (by kernel_rfl) ?_
        refine wp_val (.agg (rAirspace a)) rfl rfl (pv_load (ld_ptr hI rfl rfl rfl ti31 rfl)) ?_
        refine wp_val (.sl 1 (List.map (rI .i64) [n, 0, 1, (IntKind.wrap .i64 ((a.Segments.length : Int) - 1)), (IntKind.wrap .i64 ((a.Routes.length : Int) - 1))])) rfl rfl pv_move ?_
        refine wp_val (.int .i64 (j : Int)) rfl rfl pv_move ?_
        refine wp_val (.cp [(.int .i64 a1)] 0) rfl rfl (pv_ixa (ixa_nat ti34 ti3 rfl ha1)) ?_
        refine wp_val (.int .i64 a1) rfl rfl (pv_load (ld_cp ti3 rfl)) ?_
        refine wp_call [(.agg (rAirspace a)), (.int .i64 a1)] rfl rfl rfl rfl rfl ((cp_ref11_Minutes a a1) _) (fun v _ _ _ => wu_pan Try.func3 hI) (pend_yes rfl (pend_yes rfl (pend_yes rfl (pend_yes rfl (pend_yes rfl pend_nil))))) fun r3 _ => ?_
        refine wp_val (.tup [(.sl 2 (List.map rSpan r3.1)), (.int .i64 r3.2)]) rfl rfl pv_move ?_
        refine wp_val (.sl 2 (List.map rSpan r3.1)) rfl rfl (pv_ext rfl) ?_
        refine wp_val (.int .i64 r3.2) rfl rfl (pv_ext rfl) ?_
        refine wp_val (.sl 2 (List.map rSpan r3.1)) rfl rfl pv_assign ?_
        refine wp_val (.int .i64 r3.2) rfl rfl pv_assign ?_
        refine wp_nil ?_
        refine wr_seq ?_
        refine wr_draw hmix [[], [], [], [1, 2], [1, 2, 3], [0, 1, 2, 3, 4], [0, 1, 2, 3, 4, 5], [0, 1, 2, 3, 4, 5, 6], [0, 1, 2, 3, 4, 5, 6], [0, 1, 2, 3, 4, 5, 5, 6, 7, 7], [0, 1, 2, 3, 4, 5, 6, 7, 8, 8, 9, 9]] [(false, 0), (false, 1), (false, 2), (false, 3), (false, 4), (true, 5), (false, 6), (false, 7), (false, 8), (false, 9), (false, 10)] (by kernel_rfl) ?_
        refine wp_val (.agg (rAirspace a)) rfl rfl (pv_load (ld_ptr hI rfl rfl rfl ti31 rfl)) ?_
        refine wp_val (.sl 1 (List.map (rI .i64) [n, 0, 1, (IntKind.wrap .i64 ((a.Segments.length : Int) - 1)), (IntKind.wrap .i64 ((a.Routes.length : Int) - 1))])) rfl rfl pv_move ?_
        refine wp_val (.int .i64 (j : Int)) rfl rfl pv_move ?_
        refine wp_val (.cp [(.int .i64 a1)] 0) rfl rfl (pv_ixa (ixa_nat ti34 ti3 rfl ha1)) ?_
        refine wp_val (.int .i64 a1) rfl rfl (pv_load (ld_cp ti3 rfl)) ?_
        refine wp_call [(.agg (rAirspace a)), (.int .i64 a1)] rfl rfl rfl rfl rfl ((cp_opening_Legs a a1) _) (fun v _ _ _ => wu_pan Try.func3 hI) (pend_yes rfl (pend_yes rfl (pend_yes rfl (pend_yes rfl (pend_yes rfl pend_nil))))) fun r4 _ => ?_
        refine wp_val (.tup [(.sl 4 (List.map rLeg r4.1)), (.int .i64 r4.2)]) rfl rfl pv_move ?_
        refine wp_val (.sl 4 (List.map rLeg r4.1)) rfl rfl (pv_ext rfl) ?_
        refine wp_val (.int .i64 r4.2) rfl rfl (pv_ext rfl) ?_
        refine wp_val (.sl 4 (List.map rLeg r4.1)) rfl rfl pv_assign ?_
        refine wp_val (.int .i64 r4.2) rfl rfl pv_assign ?_
        refine wp_nil ?_
        refine wr_seq ?_
        refine wr_draw hmix [[], [], [], [1, 2], [1, 2, 3], [0, 1, 2, 3, 4], [0, 1, 2, 3, 4, 5], [0, 1, 2, 3, 4, 5, 6], [0, 1, 2, 3, 4, 5, 6], [0, 1, 2, 3, 4, 5, 5, 6, 7, 7], [0, 1, 2, 3, 4, 5, 6, 7, 8, 8, 9, 9]] [(false, 0), (false, 1), (false, 2), (false, 3), (false, 4), (true, 5), (false, 6), (false, 7), (false, 8), (false, 9), (false, 10)] (by kernel_rfl) ?_
        refine wp_val (.agg (rAirspace a)) rfl rfl (pv_load (ld_ptr hI rfl rfl rfl ti31 rfl)) ?_
        refine wp_val (.sl 1 (List.map (rI .i64) [n, 0, 1, (IntKind.wrap .i64 ((a.Segments.length : Int) - 1)), (IntKind.wrap .i64 ((a.Routes.length : Int) - 1))])) rfl rfl pv_move ?_
        refine wp_val (.int .i64 (j : Int)) rfl rfl pv_move ?_
        refine wp_val (.cp [(.int .i64 a1)] 0) rfl rfl (pv_ixa (ixa_nat ti34 ti3 rfl ha1)) ?_
        refine wp_val (.int .i64 a1) rfl rfl (pv_load (ld_cp ti3 rfl)) ?_
        refine wp_call [(.agg (rAirspace a)), (.int .i64 a1)] rfl rfl rfl rfl rfl ((cp_ref11_Legs a a1) _) (fun v _ _ _ => wu_pan Try.func3 hI) (pend_yes rfl (pend_yes rfl (pend_yes rfl (pend_yes rfl (pend_yes rfl pend_nil))))) fun r5 _ => ?_
        refine wp_val (.tup [(.sl 4 (List.map rLeg r5.1)), (.int .i64 r5.2)]) rfl rfl pv_move ?_
        refine wp_val (.sl 4 (List.map rLeg r5.1)) rfl rfl (pv_ext rfl) ?_
        refine wp_val (.int .i64 r5.2) rfl rfl (pv_ext rfl) ?_
        refine wp_val (.sl 4 (List.map rLeg r5.1)) rfl rfl pv_assign ?_
        refine wp_val (.int .i64 r5.2) rfl rfl pv_assign ?_
        refine wp_nil ?_
        refine wr_seq ?_
        refine wr_region ?_
        refine wo_val (.sl 2 (List.map rSpan r2.1)) rfl pv_move ?_
        refine wo_val (.sl 2 (List.map rSpan r3.1)) rfl pv_move ?_
        refine of_call [(.sl 2 (List.map rSpan r2.1)), (.sl 2 (List.map rSpan r3.1))] rfl rfl rfl rfl ((cp_ref11_SameSpans r2.1 r3.1) _) (fun v _ => wu_pan Try.func3 hI) fun r6 _ => ?_
        refine wo_val (.bool (!r6)) rfl (pv_un rfl) ?_
        refine wo_val (.bool (!r6)) rfl pv_move ?_
        refine wo_meet 4 [(2, (.ptr (ix ids 0) g 0 0)), (5, (.sl 1 (List.map (rI .i64) [n, 0, 1, (IntKind.wrap .i64 ((a.Segments.length : Int) - 1)), (IntKind.wrap .i64 ((a.Routes.length : Int) - 1))]))), (6, (.int .i64 (j : Int))), (11, (.sl 4 (List.map rLeg r4.1))), (12, (.int .i64 r4.2)), (13, (.sl 4 (List.map rLeg r5.1))), (14, (.int .i64 r5.2)), (80, (.bool ((!r6) || (r2.2 != r3.2))))] ?_ fun hJ => wo_cases (!r6) (fun hb1 => ?_) (fun hb1 => ?_)
        · refine wo_val (.bool ((!r6) || (r2.2 != r3.2))) rfl pv_move ?_
          refine wo_join 5 ((fun (b : Bool) => if (b || (r4.2 != r5.2)) then
(.ok (.inr (false)))
else
(.ok (.inl ()))) : Bool → R (Unit ⊕ Bool)) (fun (b : Bool) (fr : Nat → AV) (h : AHeap) => fr = frA [(2, (.ptr (ix ids 0) g 0 0)), (5, (.sl 1 (List.map (rI .i64) [n, 0, 1, (IntKind.wrap .i64 ((a.Segments.length : Int) - 1)), (IntKind.wrap .i64 ((a.Routes.length : Int) - 1))]))), (6, (.int .i64 (j : Int))), (12, (.int .i64 r4.2)), (14, (.int .i64 r5.2)), (86, (.bool b))] ∧ h = hp h0 ids [(some (.rows g 8 [(rAirspace a)]))]) ?_ fun hJ1 => of_if1 (fun hb3 => ?_) (fun hb3 => ?_)
          · rintro b fr h ⟨rfl, rfl⟩
            refine wo_val (.bool b) rfl pv_move ?_
            refine wo_meet 4 [(2, (.ptr (ix ids 0) g 0 0)), (5, (.sl 1 (List.map (rI .i64) [n, 0, 1, (IntKind.wrap .i64 ((a.Segments.length : Int) - 1)), (IntKind.wrap .i64 ((a.Routes.length : Int) - 1))]))), (6, (.int .i64 (j : Int))), (91, (.bool (b || (r4.2 != r5.2))))] ?_ fun hJ2 => wo_cases b (fun hb5 => ?_) (fun hb5 => ?_)
            · refine wo_nil ?_
              refine wf_iteb rfl (fun hc2 => ?_) (fun hc2 => ?_)
              · refine wr_seq ?_
                refine wr_region ?_
                refine wo_val (.bool false) rfl pv_assign ?_
                refine wo_nil ?_
                refine wx_each ?_
                refine w_altr ?_
                exact wr_ret (a := false) (vs := [(.bool false)]) Try.func3 hI rfl (.same _)
              · refine wr_skip ?_
                refine wr_inBlock ?_
                refine wr_region ?_
                refine wo_val (.int .i64 (j : Int)) rfl pv_move ?_
                refine wo_val (.int .i64 (IntKind.wrap .i64 ((j : Int) + 1))) rfl (pv_bin rfl rfl rfl) ?_
                refine wo_val (.int .i64 (IntKind.wrap .i64 ((j : Int) + 1))) rfl pv_assign ?_
                refine wo_nil ?_
                refine wr_is [(2, (.ptr (ix ids 0) g 0 0)), (5, (.sl 1 (List.map (rI .i64) [n, 0, 1, (IntKind.wrap .i64 ((a.Segments.length : Int) - 1)), (IntKind.wrap .i64 ((a.Routes.length : Int) - 1))]))), (6, (.int .i64 ((j + 1 : Nat) : Int)))] (.cons rfl (.cons rfl (.cons (inc_ok (lt_of_get ha1) hlim) .nil))) ?_
                refine wb_each ?_
                refine hW () _ _ ?_
                exact ⟨rfl, rfl⟩
            · refine wo_not (tj := 87) (b := true) rfl (congrArg AV.bool hb5) rfl rfl ?_
              refine wo_not (tj := 87) (b := true) rfl (congrArg AV.bool hb5) rfl rfl ?_
              refine wo_not (tj := 87) (b := true) rfl (congrArg AV.bool hb5) rfl rfl ?_
              refine wo_val (.bool true) rfl (pv_pick (t := true) (congrArg AV.bool hb5) rfl) ?_
              exact wo_is [(2, (.ptr (ix ids 0) g 0 0)), (5, (.sl 1 (List.map (rI .i64) [n, 0, 1, (IntKind.wrap .i64 ((a.Segments.length : Int) - 1)), (IntKind.wrap .i64 ((a.Routes.length : Int) - 1))]))), (6, (.int .i64 (j : Int))), (91, (.bool (b || (r4.2 != r5.2))))] (.cons rfl (.cons rfl (.cons rfl (.cons (or_t hb5) .nil)))) hJ2
            · refine wo_valg (tj := 87) (.int .i64 r4.2) rfl (congrArg AV.bool hb5) rfl pv_move ?_
              refine wo_valg (tj := 87) (.int .i64 r5.2) rfl (congrArg AV.bool hb5) rfl pv_move ?_
              refine wo_valg (tj := 87) (.bool (r4.2 != r5.2)) rfl (congrArg AV.bool hb5) rfl (pv_bin rfl rfl rfl) ?_
              refine wo_val (.bool (r4.2 != r5.2)) rfl (pv_pick (t := false) (congrArg AV.bool hb5) rfl) ?_
              exact wo_is [(2, (.ptr (ix ids 0) g 0 0)), (5, (.sl 1 (List.map (rI .i64) [n, 0, 1, (IntKind.wrap .i64 ((a.Segments.length : Int) - 1)), (IntKind.wrap .i64 ((a.Routes.length : Int) - 1))]))), (6, (.int .i64 (j : Int))), (91, (.bool (b || (r4.2 != r5.2))))] (.cons rfl (.cons rfl (.cons rfl (.cons (or_f hb5) .nil)))) hJ2
          · refine wo_not (tj := 81) (b := true) rfl (congrArg AV.bool hb3) rfl rfl ?_
            refine wo_not (tj := 81) (b := true) rfl (congrArg AV.bool hb3) rfl rfl ?_
            refine wo_not (tj := 81) (b := true) rfl (congrArg AV.bool hb3) rfl rfl ?_
            refine wo_not (tj := 81) (b := true) rfl (congrArg AV.bool hb3) rfl rfl ?_
            refine wo_val (.bool true) rfl (pv_pick (t := true) (congrArg AV.bool hb3) rfl) ?_
            refine wo_back1 ?_
            refine wo_is [(2, (.ptr (ix ids 0) g 0 0)), (5, (.sl 1 (List.map (rI .i64) [n, 0, 1, (IntKind.wrap .i64 ((a.Segments.length : Int) - 1)), (IntKind.wrap .i64 ((a.Routes.length : Int) - 1))]))), (6, (.int .i64 (j : Int))), (12, (.int .i64 r4.2)), (14, (.int .i64 r5.2)), (86, (.bool true))] (.cons rfl (.cons rfl (.cons rfl (.cons rfl (.cons rfl (.cons rfl .nil)))))) ?_
            exact hJ1 true _ _ ⟨rfl, rfl⟩
          · refine wo_valg (tj := 81) (.sl 4 (List.map rLeg r4.1)) rfl (congrArg AV.bool hb3) rfl pv_move ?_
            refine wo_valg (tj := 81) (.sl 4 (List.map rLeg r5.1)) rfl (congrArg AV.bool hb3) rfl pv_move ?_
            refine of_call [(.sl 4 (List.map rLeg r4.1)), (.sl 4 (List.map rLeg r5.1))] rfl (wanted_yes (tj := 81) rfl (congrArg AV.bool hb3)) rfl rfl ((cp_ref11_SameLegs r4.1 r5.1) _) (fun v _ => wu_pan Try.func3 hI) fun r7 _ => ?_
            refine wo_valg (tj := 81) (.bool (!r7)) rfl (congrArg AV.bool hb3) rfl (pv_un rfl) ?_
            refine wo_val (.bool (!r7)) rfl (pv_pick (t := false) (congrArg AV.bool hb3) rfl) ?_
            refine wo_back1 ?_
            refine wo_is [(2, (.ptr (ix ids 0) g 0 0)), (5, (.sl 1 (List.map (rI .i64) [n, 0, 1, (IntKind.wrap .i64 ((a.Segments.length : Int) - 1)), (IntKind.wrap .i64 ((a.Routes.length : Int) - 1))]))), (6, (.int .i64 (j : Int))), (12, (.int .i64 r4.2)), (14, (.int .i64 r5.2)), (86, (.bool (!r7)))] (.cons rfl (.cons rfl (.cons rfl (.cons rfl (.cons rfl (.cons rfl .nil)))))) ?_
            exact hJ1 (!r7) _ _ ⟨rfl, rfl⟩
        · refine wo_not (tj := 76) (b := true) rfl (congrArg AV.bool hb1) rfl rfl ?_
          refine wo_not (tj := 76) (b := true) rfl (congrArg AV.bool hb1) rfl rfl ?_
          refine wo_not (tj := 76) (b := true) rfl (congrArg AV.bool hb1) rfl rfl ?_
          refine wo_val (.bool true) rfl (pv_pick (t := true) (congrArg AV.bool hb1) rfl) ?_
          exact wo_is [(2, (.ptr (ix ids 0) g 0 0)), (5, (.sl 1 (List.map (rI .i64) [n, 0, 1, (IntKind.wrap .i64 ((a.Segments.length : Int) - 1)), (IntKind.wrap .i64 ((a.Routes.length : Int) - 1))]))), (6, (.int .i64 (j : Int))), (11, (.sl 4 (List.map rLeg r4.1))), (12, (.int .i64 r4.2)), (13, (.sl 4 (List.map rLeg r5.1))), (14, (.int .i64 r5.2)), (80, (.bool ((!r6) || (r2.2 != r3.2))))] (.cons rfl (.cons rfl (.cons rfl (.cons rfl (.cons rfl (.cons rfl (.cons rfl (.cons (or_t hb1) .nil)))))))) hJ
        · refine wo_valg (tj := 76) (.int .i64 r2.2) rfl (congrArg AV.bool hb1) rfl pv_move ?_
          refine wo_valg (tj := 76) (.int .i64 r3.2) rfl (congrArg AV.bool hb1) rfl pv_move ?_
          refine wo_valg (tj := 76) (.bool (r2.2 != r3.2)) rfl (congrArg AV.bool hb1) rfl (pv_bin rfl rfl rfl) ?_
          refine wo_val (.bool (r2.2 != r3.2)) rfl (pv_pick (t := false) (congrArg AV.bool hb1) rfl) ?_
          exact wo_is [(2, (.ptr (ix ids 0) g 0 0)), (5, (.sl 1 (List.map (rI .i64) [n, 0, 1, (IntKind.wrap .i64 ((a.Segments.length : Int) - 1)), (IntKind.wrap .i64 ((a.Routes.length : Int) - 1))]))), (6, (.int .i64 (j : Int))), (11, (.sl 4 (List.map rLeg r4.1))), (12, (.int .i64 r4.2)), (13, (.sl 4 (List.map rLeg r5.1))), (14, (.int .i64 r5.2)), (80, (.bool ((!r6) || (r2.2 != r3.2))))] (.cons rfl (.cons rfl (.cons rfl (.cons rfl (.cons rfl (.cons rfl (.cons rfl (.cons (or_f hb1) .nil)))))))) hJ
      · rintro _ fr h ⟨rfl, rfl⟩
        refine wr_mod (alt_inl _ _ _) ?_
        refine wr_seq ?_
        refine wr_seq ?_
        refine wr_region ?_
        refine wo_val (.int .i64 ([n, 0, 1, (IntKind.wrap .i64 ((a.Segments.length : Int) - 1)), (IntKind.wrap .i64 ((a.Routes.length : Int) - 1))].length : Int)) rfl pv_move ?_
        refine wo_val (.sl 1 (List.map (rI .i64) [n, 0, 1, (IntKind.wrap .i64 ((a.Segments.length : Int) - 1)), (IntKind.wrap .i64 ((a.Routes.length : Int) - 1))])) rfl pv_move ?_
        refine wo_val (.int .i64 ([n, 0, 1, (IntKind.wrap .i64 ((a.Segments.length : Int) - 1)), (IntKind.wrap .i64 ((a.Routes.length : Int) - 1))].length : Int)) rfl (pv_len (len_sl ti34)) ?_
        refine wo_val (.bool (decide (([n, 0, 1, (IntKind.wrap .i64 ((a.Segments.length : Int) - 1)), (IntKind.wrap .i64 ((a.Routes.length : Int) - 1))].length : Int) < ([n, 0, 1, (IntKind.wrap .i64 ((a.Segments.length : Int) - 1)), (IntKind.wrap .i64 ((a.Routes.length : Int) - 1))].length : Int)))) rfl (pv_bin rfl rfl rfl) ?_
        refine wo_nil ?_
        refine wr_condF rfl (Int.lt_irrefl _) ?_
        refine wr_exit rfl ?_
        refine wr_seq ?_
        refine wr_region ?_
        refine wo_val (.bool true) rfl pv_assign ?_
        refine wo_nil ?_
        exact wr_ret (a := true) (vs := [(.bool true)]) Try.func3 hI rfl (.same _)
    · refine wr_seq ?_
      refine wr_region ?_
      refine wo_val (.bool true) rfl pv_assign ?_
      refine wo_nil ?_
      exact wr_ret (a := true) (vs := [(.bool true)]) Try.func3 hI rfl (.same _)
  · refine wr_seq ?_
    refine wr_region ?_
    refine wo_val (.bool false) rfl pv_assign ?_
    refine wo_nil ?_
    exact wr_ret (a := false) (vs := [(.bool false)]) Try.func3 hI rfl (.same _)

theorem cp_ref11_Passable (a : Airspace) : CP Try.prog 17 [(.agg (rAirspace a))] (ref11_Passable a) (fun (p : ((List Int) × Int)) => AV.tup [(.sl 1 (List.map (rI .i64) p.1)), (.int .i64 p.2)]) := by
  refine cp_intro (n := 57) 3 Try.func17 rfl (by decide) rfl rfl fun h0 ids hI => ?_
  refine wr_in (wr_mod (ref11_Passable.eq_1 _) ?_)
  refine wr_seq ?_
  refine wr_region ?_
  refine wo_box (v := (.agg (rAirspace a))) (j := 0) hI rfl rfl rfl rfl rfl rfl rfl fun g => ?_
  refine wo_val .emp rfl pv_assign ?_
  refine wo_val (.int .i64 0) rfl pv_assign ?_
  refine wo_nil ?_
  refine wr_hp [(some (.rows g 8 [(rAirspace a)])), none, none] rfl ?_
  refine wr_seq ?_
  refine wr_region ?_
  refine wo_val (.ptr (ix ids 0) g 0 0) rfl (pv_fa (fa_ptr (c := 0) (off := 0) (i := 0) ti31 rfl ti22 rfl)) ?_
  refine wo_val (.sl 2 (List.map rVolume a.Volumes)) rfl (pv_load (ld_ptr hI rfl rfl rfl ti22 rfl)) ?_
  refine wo_val (.int .i64 (a.Volumes.length : Int)) rfl (pv_len (len_sl ti22)) ?_
  refine of_need fun hl => ?_
  refine wo_make (y := (false : Bool)) (e := rB) (st := 1) (j := 1) hI rfl rfl rfl rfl ti82 ti4 rfl rfl hl.1 hl.2.1 hl.2.2 rfl rfl rfl rfl rfl fun v g1 vH => ?_
  refine wo_val v rfl pv_assign ?_
  refine wo_nil ?_
  refine wr_hp [(some (.rows g 8 [(rAirspace a)])), (ownO v g1 1 (List.map rB (List.replicate (Int.toNat (a.Volumes.length : Int)) false))), none] rfl ?_
  refine wr_seq ?_
  refine wr_seq ?_
  refine wr_region ?_
  refine wo_val (.int .i64 0) rfl pv_assign ?_
  refine wo_nil ?_
  refine wr_block ?_
  refine wr_is [(1, (.ptr (ix ids 0) g 0 0)), (4, v), (5, (.int .i64 0))] (.cons rfl (.cons rfl (.cons rfl .nil))) ?_
  refine wf_each' (P := Try.prog) a.Segments (fun j a1 => fun vis => ref11_Passable_b1 a j a1 vis) ((alt (fun vis => (loop (un3 fun i1 vis1 l => ref11_Passable_b2 i1 vis1 l) (0, vis, [])).bind (fun l1 => ref11_Passable_j1 l1)) (fun r => .ok r)) : ((List Bool) ⊕ ((List Int) × Int)) → R ((List Int) × Int))
    (fun j => fun vis => fun (fr : Nat → AV) (h : AHeap) => ∃ (v1 : AV), ∃ (g2 : Nat), OwnV v1 (ix ids 1) g2 vis.length ∧ fr = frA [(1, (.ptr (ix ids 0) g 0 0)), (4, v1), (5, (.int .i64 (j : Int)))] ∧ h = hp h0 ids [(some (.rows g 8 [(rAirspace a)])), (ownO v1 g2 1 (List.map rB vis)), none]) (List.replicate (Int.toNat (a.Volumes.length : Int)) false) ?_ ?_ ?_
  · exact ⟨v, g1, vH, rfl, rfl⟩
  · rintro j a1 ha1 W hW vis fr h ⟨v1, g2, vH1, rfl, rfl⟩
    refine wr_mod (m' := ref11_Passable_b1 a j a1 vis) rfl (wr_mod (ref11_Passable_b1.eq_1 _ _ _ _) ?_)
    refine wr_seq ?_
    refine wr_seq ?_
    refine wr_region ?_
    refine wo_val (.int .i64 (j : Int)) rfl pv_move ?_
    refine wo_val (.ptr (ix ids 0) g 0 3) rfl (pv_fa (fa_ptr (c := 0) (off := 3) (i := 3) ti31 rfl ti25 rfl)) ?_
    refine wo_val (.sl 5 (List.map rSegment a.Segments)) rfl (pv_load (ld_ptr hI rfl rfl rfl ti25 rfl)) ?_
    refine wo_val (.int .i64 (a.Segments.length : Int)) rfl (pv_len (len_sl ti25)) ?_
    refine wo_val (.bool (decide ((j : Int) < (a.Segments.length : Int)))) rfl (pv_bin rfl rfl rfl) ?_
    refine wo_nil ?_
    refine wr_lim (t := 16) (L := a.Segments) rfl fun hlim1 => ?_
    refine wr_condT rfl (Int.ofNat_lt.2 (lt_of_get ha1)) ?_
    refine wr_skip ?_
    refine wr_seq ?_
    refine wr_block ?_
    refine wr_seq ?_
    refine wr_region ?_
    refine wo_val (.agg (rAirspace a)) rfl (pv_load (ld_ptr hI rfl rfl rfl ti31 rfl)) ?_
    refine wo_val (.int .i64 (j : Int)) rfl pv_move ?_
    refine of_call [(.agg (rAirspace a)), (.int .i64 (j : Int))] rfl rfl rfl rfl ((cp_ref11_Minutes a (j : Int)) _) (fun v _ => wu_pan Try.func17 hI) fun r _ => ?_
    refine wo_val (.tup [(.sl 2 (List.map rSpan r.1)), (.int .i64 r.2)]) rfl pv_move ?_
    refine wo_val (.sl 2 (List.map rSpan r.1)) rfl (pv_ext rfl) ?_
    refine wo_val (.int .i64 r.2) rfl (pv_ext rfl) ?_
    refine wo_val (.sl 2 (List.map rSpan r.1)) rfl pv_assign ?_
    refine wo_val (.int .i64 r.2) rfl pv_assign ?_
    refine wo_nil ?_
    refine wr_seq ?_
    refine wr_seq ?_
    refine wr_region ?_
    refine wo_val (.int .i64 r.2) rfl pv_move ?_
    refine wo_val (.bool (r.2 != 0)) rfl (pv_bin rfl rfl rfl) ?_
    refine wo_nil ?_
    refine wf_iteb rfl (fun hc => ?_) (fun hc => ?_)
    · refine wr_seq ?_
      refine wr_region ?_
      refine wo_val (.int .i64 r.2) rfl pv_move ?_
      refine wo_val .emp rfl pv_assign ?_
      refine wo_val (.int .i64 r.2) rfl pv_assign ?_
      refine wo_nil ?_
      refine wx_each ?_
      refine w_altr ?_
      exact wr_ret (a := ([], r.2)) (vs := [.emp, (.int .i64 r.2)]) Try.func17 hI rfl (.tupL (.cons (.emp _) (.cons (.same _) .nil)))
    · refine wr_skip ?_
      refine wr_seq ?_
      refine wr_region ?_
      refine wo_val (.sl 2 (List.map rSpan r.1)) rfl pv_move ?_
      refine wo_val (.int .i64 (r.1.length : Int)) rfl (pv_len (len_sl ti35)) ?_
      refine wo_val (.bool (decide ((r.1.length : Int) > 0))) rfl (pv_bin rfl rfl rfl) ?_
      refine wo_nil ?_
      refine wf_ite rfl (fun hc1 => ?_) (fun hc1 => ?_)
      · refine wr_region ?_
        refine wo_val v1 rfl pv_move ?_
        refine wo_val (.ptr (ix ids 0) g 0 3) rfl (pv_fa (fa_ptr (c := 0) (off := 3) (i := 3) ti31 rfl ti25 rfl)) ?_
        refine wo_val (.sl 5 (List.map rSegment a.Segments)) rfl (pv_load (ld_ptr hI rfl rfl rfl ti25 rfl)) ?_
        refine wo_val (.int .i64 (j : Int)) rfl pv_move ?_
        refine wo_val (.cp (rSegment a1) 0) rfl (pv_ixa (ixa_nat ti25 ti59 rfl ha1)) ?_
        refine wo_val (.cp (rSegment a1) 2) rfl (pv_fa (fa_cp (c := 0) (off := 2) (i := 2) ti59 rfl ti3 rfl)) ?_
        refine wo_val (.int .i64 a1.Volume) rfl (pv_load (ld_cp ti3 rfl)) ?_
        refine of_idx fun a2 hz hx1 => ?_
        refine wo_val (.ptr (ix ids 1) g2 a1.Volume.toNat 0) rfl (pv_ixa (ixa_own hI rfl vH1 rfl ti82 ti4 rfl hz hx1)) ?_
        refine wo_store (st_own (y := true) hI rfl rfl vH1 rfl hx1 ti4 rfl rfl rfl rfl rfl rfl) ?_
        have vH2 := OwnV.set (i := a1.Volume.toNat) (y := true) vH1
        have hx2 := List.getElem?_set_self (a := true) (lt_of_get hx1)
        refine wo_nil ?_
        refine wr_hp [(some (.rows g 8 [(rAirspace a)])), (ownO v1 g2 1 (List.map rB (vis.set a1.Volume.toNat true))), none] rfl ?_
        refine wr_inBlock ?_
        refine wr_region ?_
        refine wo_val (.int .i64 (j : Int)) rfl pv_move ?_
        refine wo_val (.int .i64 (IntKind.wrap .i64 ((j : Int) + 1))) rfl (pv_bin rfl rfl rfl) ?_
        refine wo_val (.int .i64 (IntKind.wrap .i64 ((j : Int) + 1))) rfl pv_assign ?_
        refine wo_nil ?_
        refine wr_is [(1, (.ptr (ix ids 0) g 0 0)), (4, v1), (5, (.int .i64 ((j + 1 : Nat) : Int)))] (.cons rfl (.cons rfl (.cons (inc_ok (lt_of_get ha1) hlim1) .nil))) ?_
        refine wb_each ?_
        refine hW (vis.set a1.Volume.toNat true) _ _ ?_
        exact ⟨v1, g2, vH2, rfl, rfl⟩
      · refine wr_skip ?_
        refine wr_inBlock ?_
        refine wr_region ?_
        refine wo_val (.int .i64 (j : Int)) rfl pv_move ?_
        refine wo_val (.int .i64 (IntKind.wrap .i64 ((j : Int) + 1))) rfl (pv_bin rfl rfl rfl) ?_
        refine wo_val (.int .i64 (IntKind.wrap .i64 ((j : Int) + 1))) rfl pv_assign ?_
        refine wo_nil ?_
        refine wr_is [(1, (.ptr (ix ids 0) g 0 0)), (4, v1), (5, (.int .i64 ((j + 1 : Nat) : Int)))] (.cons rfl (.cons rfl (.cons (inc_ok (lt_of_get ha1) hlim1) .nil))) ?_
        refine wb_each ?_
        refine hW vis _ _ ?_
        exact ⟨v1, g2, vH1, rfl, rfl⟩
  · rintro vis fr h ⟨v1, g2, vH1, rfl, rfl⟩
    refine wr_mod (alt_inl _ _ _) ?_
    refine wr_seq ?_
    refine wr_seq ?_
    refine wr_region ?_
    refine wo_val (.int .i64 (a.Segments.length : Int)) rfl pv_move ?_
    refine wo_val (.ptr (ix ids 0) g 0 3) rfl (pv_fa (fa_ptr (c := 0) (off := 3) (i := 3) ti31 rfl ti25 rfl)) ?_
    refine wo_val (.sl 5 (List.map rSegment a.Segments)) rfl (pv_load (ld_ptr hI rfl rfl rfl ti25 rfl)) ?_
    refine wo_val (.int .i64 (a.Segments.length : Int)) rfl (pv_len (len_sl ti25)) ?_
    refine wo_val (.bool (decide ((a.Segments.length : Int) < (a.Segments.length : Int)))) rfl (pv_bin rfl rfl rfl) ?_
    refine wo_nil ?_
    refine wr_condF rfl (Int.lt_irrefl _) ?_
    refine wr_exit rfl ?_
    refine wr_seq ?_
    refine wr_region ?_
    refine wo_bs0 rfl ti34 ti3 ?_
    refine wo_val .emp rfl pv_assign ?_
    refine wo_nil ?_
    refine wr_seq ?_
    refine wr_seq ?_
    refine wr_region ?_
    refine wo_val (.int .i64 0) rfl pv_assign ?_
    refine wo_nil ?_
    refine wf_join (fun l1 => ref11_Passable_j1 l1) (fun l1 => fun (fr : Nat → AV) (h : AHeap) => ∃ (v5 : AV), ∃ (g6 : Nat), OwnV v5 (ix ids 2) g6 l1.length ∧ fr = frA [(8, v5)] ∧ h = hp h0 ids [none, none, (ownO v5 g6 1 (List.map (rI .i64) l1))]) ?_ fun hJ => ?_
    · rintro l1 fr h ⟨v5, g6, vH6, rfl, rfl⟩
      refine wr_mod (ref11_Passable_j1.eq_1 _) ?_
      refine wr_seq ?_
      refine wr_region ?_
      refine wo_val v5 rfl pv_move ?_
      refine wo_val v5 rfl pv_assign ?_
      refine wo_val (.int .i64 0) rfl pv_assign ?_
      refine wo_nil ?_
      exact wr_ret (a := (l1, 0)) (vs := [v5, (.int .i64 0)]) Try.func17 hI rfl (.tupL (.cons (own_fz vH6 (hI.at rfl rfl) (hI.out rfl) (fun x => ok_I x)) (.cons (.same _) .nil)))
    · refine wr_block ?_
      refine wr_drop [none, (ownO v1 g2 1 (List.map rB vis)), none] hI rfl (.drop (.keep (.keep .nil))) ?_
      refine wr_is [(4, v1), (8, .emp), (9, (.int .i64 0))] (.cons rfl (.cons rfl (.cons rfl .nil))) ?_
      refine wf_loop' (P := Try.prog) (un3 fun i1 vis1 l => ref11_Passable_b2 i1 vis1 l) ((fun l1 => ref11_Passable_j1 l1) : (List Int) → R ((List Int) × Int))
        (un3 fun i1 vis1 l => fun (fr : Nat → AV) (h : AHeap) => ∃ (v2 : AV), ∃ (g3 : Nat), ∃ (v3 : AV), ∃ (g4 : Nat), OwnV v2 (ix ids 1) g3 vis1.length ∧ OwnV v3 (ix ids 2) g4 l.length ∧ fr = frA [(4, v2), (8, v3), (9, (.int .i64 i1))] ∧ h = hp h0 ids [none, (ownO v2 g3 1 (List.map rB vis1)), (ownO v3 g4 1 (List.map (rI .i64) l))]) (0, vis, []) ?_ ?_
      · exact ⟨v1, g2, .emp, 0, vH1, .nil, rfl, rfl⟩
      · rintro vW1 hW1 ⟨i1, vis1, l⟩ fr h ⟨v2, g3, v3, g4, vH3, vH4, rfl, rfl⟩
        refine wr_mod (m' := ref11_Passable_b2 i1 vis1 l) rfl (wr_mod (ref11_Passable_b2.eq_1 _ _ _) ?_)
        refine wr_seq ?_
        refine wr_seq ?_
        refine wr_region ?_
        refine wo_val (.int .i64 i1) rfl pv_move ?_
        refine wo_val v2 rfl pv_move ?_
        refine wo_val (.int .i64 (vis1.length : Int)) rfl (pv_len (OwnV.len vH3 ti82)) ?_
        refine wo_val (.bool (decide (i1 < (vis1.length : Int)))) rfl (pv_bin rfl rfl rfl) ?_
        refine wo_nil ?_
        refine wf_ite rfl (fun hc2 => ?_) (fun hc2 => ?_)
        · refine wr_skip ?_
          refine wr_seq ?_
          refine wr_block ?_
          refine wr_seq ?_
          refine wr_region ?_
          refine wo_val v2 rfl pv_move ?_
          refine wo_val (.int .i64 i1) rfl pv_move ?_
          refine of_idx fun a3 hz1 hx3 => ?_
          refine wo_val (.ptr (ix ids 1) g3 i1.toNat 0) rfl (pv_ixa (ixa_own hI rfl vH3 rfl ti82 ti4 rfl hz1 hx3)) ?_
          refine wo_val (.bool a3) rfl (pv_load (ld_own hI rfl vH3 rfl hx3 ti4 rfl)) ?_
          refine wo_nil ?_
          refine wf_iteb rfl (fun hc3 => ?_) (fun hc3 => ?_)
          · refine wr_region ?_
            refine wo_val v3 rfl pv_move ?_
            refine wo_val (.int .i64 i1) rfl pv_move ?_
            refine wo_bsC (e := (rI .i64)) (L := [i1]) (st := 1) (rows := [[(.int .i64 i1)]]) rfl ti34 ti3 rfl rfl rfl rfl rfl (.cons (RowSim.refl _) .nil) (fun x => ok_I x) rfl rfl ?_
            refine of_need fun hl1 => ?_
            refine wo_append (e := (rI .i64)) (L := l) (L2 := [i1]) (v := v3) (g := g4) (st := 1) (j := 2) hI rfl rfl rfl rfl vH4 rfl (src_sl rfl) ti34 ti34 rfl ti3 rfl rfl rfl hl1 fun v4 g5 vH5 => ?_
            refine wo_val v4 rfl pv_assign ?_
            refine wo_nil ?_
            refine wr_hp [none, (ownO v2 g3 1 (List.map rB vis1)), (ownO v4 g5 1 (List.map (rI .i64) (l ++ [i1])))] rfl ?_
            refine wr_inBlock ?_
            refine wr_region ?_
            refine wo_val (.int .i64 i1) rfl pv_move ?_
            refine wo_val (.int .i64 (IntKind.wrap .i64 (i1 + 1))) rfl (pv_bin rfl rfl rfl) ?_
            refine wo_val (.int .i64 (IntKind.wrap .i64 (i1 + 1))) rfl pv_assign ?_
            refine wo_nil ?_
            refine wr_is [(4, v2), (8, v4), (9, (.int .i64 (IntKind.wrap .i64 (i1 + 1))))] (.cons rfl (.cons rfl (.cons rfl .nil))) ?_
            refine wb_loop ?_
            refine hW1 ((IntKind.wrap .i64 (i1 + 1)), vis1, (l ++ [i1])) _ _ ?_
            exact ⟨v2, g3, v4, g5, vH3, vH5, rfl, rfl⟩
          · refine wr_skip ?_
            refine wr_inBlock ?_
            refine wr_region ?_
            refine wo_val (.int .i64 i1) rfl pv_move ?_
            refine wo_val (.int .i64 (IntKind.wrap .i64 (i1 + 1))) rfl (pv_bin rfl rfl rfl) ?_
            refine wo_val (.int .i64 (IntKind.wrap .i64 (i1 + 1))) rfl pv_assign ?_
            refine wo_nil ?_
            refine wr_is [(4, v2), (8, v3), (9, (.int .i64 (IntKind.wrap .i64 (i1 + 1))))] (.cons rfl (.cons rfl (.cons rfl .nil))) ?_
            refine wb_loop ?_
            refine hW1 ((IntKind.wrap .i64 (i1 + 1)), vis1, l) _ _ ?_
            exact ⟨v2, g3, v3, g4, vH3, vH4, rfl, rfl⟩
        · refine wr_exit rfl ?_
          refine wx_loop ?_
          refine wr_drop [none, none, (ownO v3 g4 1 (List.map (rI .i64) l))] hI rfl (.keep (.drop (.keep .nil))) ?_
          refine wr_is [(8, v3)] (.cons rfl .nil) ?_
          refine hJ l _ _ ?_
          exact ⟨v3, g4, vH4, rfl, rfl⟩

theorem cp_ref11_Blocked (a : Airspace) : CP Try.prog 19 [(.agg (rAirspace a))] (ref11_Blocked a) (fun (p : ((List Int) × Int)) => AV.tup [(.sl 1 (List.map (rI .i64) p.1)), (.int .i64 p.2)]) := by
  refine cp_intro (n := 49) 2 Try.func19 rfl (by decide) rfl rfl fun h0 ids hI => ?_
  refine wr_in (wr_mod (ref11_Blocked.eq_1 _) ?_)
  refine wr_seq ?_
  refine wr_region ?_
  refine wo_box (v := (.agg (rAirspace a))) (j := 0) hI rfl rfl rfl rfl rfl rfl rfl fun g => ?_
  refine wo_val .emp rfl pv_assign ?_
  refine wo_val (.int .i64 0) rfl pv_assign ?_
  refine wo_nil ?_
  refine wr_hp [(some (.rows g 8 [(rAirspace a)])), none] rfl ?_
  refine wr_seq ?_
  refine wr_region ?_
  refine wo_bs0 rfl ti34 ti3 ?_
  refine wo_val .emp rfl pv_assign ?_
  refine wo_nil ?_
  refine wr_seq ?_
  refine wr_seq ?_
  refine wr_region ?_
  refine wo_val (.int .i64 0) rfl pv_assign ?_
  refine wo_nil ?_
  refine wr_block ?_
  refine wr_is [(1, (.ptr (ix ids 0) g 0 0)), (4, .emp), (5, (.int .i64 0))] (.cons rfl (.cons rfl (.cons rfl .nil))) ?_
  refine wf_each' (P := Try.prog) a.Routes (fun j _ => fun l => ref11_Blocked_b2 a j l) ((alt (fun l => .ok (l, 0)) (fun r => .ok r)) : ((List Int) ⊕ ((List Int) × Int)) → R ((List Int) × Int))
    (fun j => fun l => fun (fr : Nat → AV) (h : AHeap) => ∃ (v : AV), ∃ (g1 : Nat), OwnV v (ix ids 1) g1 l.length ∧ fr = frA [(1, (.ptr (ix ids 0) g 0 0)), (4, v), (5, (.int .i64 (j : Int)))] ∧ h = hp h0 ids [(some (.rows g 8 [(rAirspace a)])), (ownO v g1 1 (List.map (rI .i64) l))]) [] ?_ ?_ ?_
  · exact ⟨.emp, 0, .nil, rfl, rfl⟩
  · rintro j a1 ha1 W hW l fr h ⟨v, g1, vH, rfl, rfl⟩
    refine wr_mod (m' := ref11_Blocked_b2 a j l) rfl (wr_mod (ref11_Blocked_b2.eq_1 _ _ _) ?_)
    refine wr_seq ?_
    refine wr_seq ?_
    refine wr_region ?_
    refine wo_val (.int .i64 (j : Int)) rfl pv_move ?_
    refine wo_val (.ptr (ix ids 0) g 0 4) rfl (pv_fa (fa_ptr (c := 0) (off := 4) (i := 4) ti31 rfl ti26 rfl)) ?_
    refine wo_val (.sl 7 (List.map rRoute a.Routes)) rfl (pv_load (ld_ptr hI rfl rfl rfl ti26 rfl)) ?_
    refine wo_val (.int .i64 (a.Routes.length : Int)) rfl (pv_len (len_sl ti26)) ?_
    refine wo_val (.bool (decide ((j : Int) < (a.Routes.length : Int)))) rfl (pv_bin rfl rfl rfl) ?_
    refine wo_nil ?_
    refine wr_lim (t := 13) (L := a.Routes) rfl fun hlim1 => ?_
    refine wr_condT rfl (Int.ofNat_lt.2 (lt_of_get ha1)) ?_
    refine wr_skip ?_
    refine wr_seq ?_
    refine wr_block ?_
    refine wr_seq ?_
    refine wr_region ?_
    refine wo_val (.agg (rAirspace a)) rfl (pv_load (ld_ptr hI rfl rfl rfl ti31 rfl)) ?_
    refine wo_val (.int .i64 (j : Int)) rfl pv_move ?_
    refine of_call [(.agg (rAirspace a)), (.int .i64 (j : Int))] rfl rfl rfl rfl ((cp_ref11_Legs a (j : Int)) _) (fun v _ => wu_pan Try.func19 hI) fun r _ => ?_
    refine wo_val (.tup [(.sl 4 (List.map rLeg r.1)), (.int .i64 r.2)]) rfl pv_move ?_
    refine wo_val (.sl 4 (List.map rLeg r.1)) rfl (pv_ext rfl) ?_
    refine wo_val (.int .i64 r.2) rfl (pv_ext rfl) ?_
    refine wo_val (.sl 4 (List.map rLeg r.1)) rfl pv_assign ?_
    refine wo_val (.int .i64 r.2) rfl pv_assign ?_
    refine wo_nil ?_
    refine wr_seq ?_
    refine wr_seq ?_
    refine wr_region ?_
    refine wo_val (.int .i64 r.2) rfl pv_move ?_
    refine wo_val (.bool (r.2 != 0)) rfl (pv_bin rfl rfl rfl) ?_
    refine wo_nil ?_
    refine wf_iteb rfl (fun hc => ?_) (fun hc => ?_)
    · refine wr_seq ?_
      refine wr_region ?_
      refine wo_val (.int .i64 r.2) rfl pv_move ?_
      refine wo_val .emp rfl pv_assign ?_
      refine wo_val (.int .i64 r.2) rfl pv_assign ?_
      refine wo_nil ?_
      refine wx_each ?_
      refine w_altr ?_
      exact wr_ret (a := ([], r.2)) (vs := [.emp, (.int .i64 r.2)]) Try.func19 hI rfl (.tupL (.cons (.emp _) (.cons (.same _) .nil)))
    · refine wr_skip ?_
      refine wr_seq ?_
      refine wr_region ?_
      refine wo_val (.bool false) rfl pv_assign ?_
      refine wo_nil ?_
      refine wr_seq ?_
      refine wr_seq ?_
      refine wr_region ?_
      refine wo_val (.int .i64 0) rfl pv_assign ?_
      refine wo_nil ?_
      refine wr_block ?_
      refine wr_is [(1, (.ptr (ix ids 0) g 0 0)), (4, v), (5, (.int .i64 (j : Int))), (6, (.sl 4 (List.map rLeg r.1))), (8, (.bool false)), (9, (.int .i64 0))] (.cons rfl (.cons rfl (.cons rfl (.cons rfl (.cons rfl (.cons rfl .nil)))))) ?_
      refine wf_eachS' (P := Try.prog) r.1 (fun _ a2 => fun blocked => ref11_Blocked_b1 a2 blocked) (((fun blocked => if blocked then
(if (l.length + [(j : Int)].length) * 8 ≤ LIM then
  .ok (.inl (l ++ [(j : Int)])) else .bad)
else
(.ok (.inl l)))) : Bool → R ((List Int) ⊕ ((List Int) × Int)))
        (fun j1 => fun blocked => fun (fr : Nat → AV) (h : AHeap) => fr = frA [(1, (.ptr (ix ids 0) g 0 0)), (4, v), (5, (.int .i64 (j : Int))), (6, (.sl 4 (List.map rLeg r.1))), (8, (.bool blocked)), (9, (.int .i64 (j1 : Int)))] ∧ h = hp h0 ids [(some (.rows g 8 [(rAirspace a)])), (ownO v g1 1 (List.map (rI .i64) l))]) false ?_ ?_ ?_
      · exact ⟨rfl, rfl⟩
      · rintro j1 a2 ha2 W hW1 blocked fr h ⟨rfl, rfl⟩
        refine wr_mod (m' := ref11_Blocked_b1 a2 blocked) rfl (wr_mod (ref11_Blocked_b1.eq_1 _ _) ?_)
        refine wr_seq ?_
        refine wr_seq ?_
        refine wr_region ?_
        refine wo_val (.int .i64 (j1 : Int)) rfl pv_move ?_
        refine wo_val (.sl 4 (List.map rLeg r.1)) rfl pv_move ?_
        refine wo_val (.int .i64 (r.1.length : Int)) rfl (pv_len (len_sl ti39)) ?_
        refine wo_val (.bool (decide ((j1 : Int) < (r.1.length : Int)))) rfl (pv_bin rfl rfl rfl) ?_
        refine wo_nil ?_
        refine wr_lim (t := 6) (L := r.1) rfl fun hlim2 => ?_
        refine wr_condT rfl (Int.ofNat_lt.2 (lt_of_get ha2)) ?_
        refine wr_skip ?_
        refine wr_seq ?_
        refine wr_block ?_
        refine wr_region ?_
        refine wo_val (.bool blocked) rfl pv_move ?_
        refine wo_val (.bool blocked) rfl pv_move ?_
        refine wo_meet 8 [(1, (.ptr (ix ids 0) g 0 0)), (4, v), (5, (.int .i64 (j : Int))), (6, (.sl 4 (List.map rLeg r.1))), (9, (.int .i64 (j1 : Int))), (42, (.bool (blocked || ((a2.Minutes.length : Int) == 0))))] ?_ fun hJ => wo_cases blocked (fun hb1 => ?_) (fun hb1 => ?_)
        · refine wo_val (.bool (blocked || ((a2.Minutes.length : Int) == 0))) rfl pv_assign ?_
          refine wo_nil ?_
          refine wr_inBlock ?_
          refine wr_region ?_
          refine wo_val (.int .i64 (j1 : Int)) rfl pv_move ?_
          refine wo_val (.int .i64 (IntKind.wrap .i64 ((j1 : Int) + 1))) rfl (pv_bin rfl rfl rfl) ?_
          refine wo_val (.int .i64 (IntKind.wrap .i64 ((j1 : Int) + 1))) rfl pv_assign ?_
          refine wo_nil ?_
          refine wr_is [(1, (.ptr (ix ids 0) g 0 0)), (4, v), (5, (.int .i64 (j : Int))), (6, (.sl 4 (List.map rLeg r.1))), (8, (.bool (blocked || ((a2.Minutes.length : Int) == 0)))), (9, (.int .i64 ((j1 + 1 : Nat) : Int)))] (.cons rfl (.cons rfl (.cons rfl (.cons rfl (.cons rfl (.cons (inc_ok (lt_of_get ha2) hlim2) .nil)))))) ?_
          refine wb_S ?_
          refine hW1 (blocked || ((a2.Minutes.length : Int) == 0)) _ _ ?_
          exact ⟨rfl, rfl⟩
        · refine wo_not (tj := 34) (b := true) rfl (congrArg AV.bool hb1) rfl rfl ?_
          refine wo_not (tj := 34) (b := true) rfl (congrArg AV.bool hb1) rfl rfl ?_
          refine wo_not (tj := 34) (b := true) rfl (congrArg AV.bool hb1) rfl rfl ?_
          refine wo_not (tj := 34) (b := true) rfl (congrArg AV.bool hb1) rfl rfl ?_
          refine wo_not (tj := 34) (b := true) rfl (congrArg AV.bool hb1) rfl rfl ?_
          refine wo_not (tj := 34) (b := true) rfl (congrArg AV.bool hb1) rfl rfl ?_
          refine wo_not (tj := 34) (b := true) rfl (congrArg AV.bool hb1) rfl rfl ?_
          refine wo_val (.bool true) rfl (pv_pick (t := true) (congrArg AV.bool hb1) rfl) ?_
          exact wo_is [(1, (.ptr (ix ids 0) g 0 0)), (4, v), (5, (.int .i64 (j : Int))), (6, (.sl 4 (List.map rLeg r.1))), (9, (.int .i64 (j1 : Int))), (42, (.bool (blocked || ((a2.Minutes.length : Int) == 0))))] (.cons rfl (.cons rfl (.cons rfl (.cons rfl (.cons rfl (.cons (or_t hb1) .nil)))))) hJ
        · refine wo_valg (tj := 34) (.sl 4 (List.map rLeg r.1)) rfl (congrArg AV.bool hb1) rfl pv_move ?_
          refine wo_valg (tj := 34) (.int .i64 (j1 : Int)) rfl (congrArg AV.bool hb1) rfl pv_move ?_
          refine wo_valg (tj := 34) (.cp (rLeg a2) 0) rfl (congrArg AV.bool hb1) rfl (pv_ixa (ixa_nat ti39 ti52 rfl ha2)) ?_
          refine wo_valg (tj := 34) (.cp (rLeg a2) 3) rfl (congrArg AV.bool hb1) rfl (pv_fa (fa_cp (c := 0) (off := 3) (i := 3) ti52 rfl ti35 rfl)) ?_
          refine wo_valg (tj := 34) (.sl 2 (List.map rSpan a2.Minutes)) rfl (congrArg AV.bool hb1) rfl (pv_load (ld_cp ti35 rfl)) ?_
          refine wo_valg (tj := 34) (.int .i64 (a2.Minutes.length : Int)) rfl (congrArg AV.bool hb1) rfl (pv_len (len_sl ti35)) ?_
          refine wo_valg (tj := 34) (.bool ((a2.Minutes.length : Int) == 0)) rfl (congrArg AV.bool hb1) rfl (pv_bin rfl rfl rfl) ?_
          refine wo_val (.bool ((a2.Minutes.length : Int) == 0)) rfl (pv_pick (t := false) (congrArg AV.bool hb1) rfl) ?_
          exact wo_is [(1, (.ptr (ix ids 0) g 0 0)), (4, v), (5, (.int .i64 (j : Int))), (6, (.sl 4 (List.map rLeg r.1))), (9, (.int .i64 (j1 : Int))), (42, (.bool (blocked || ((a2.Minutes.length : Int) == 0))))] (.cons rfl (.cons rfl (.cons rfl (.cons rfl (.cons rfl (.cons (or_f hb1) .nil)))))) hJ
      · rintro blocked fr h ⟨rfl, rfl⟩
        refine wr_seq ?_
        refine wr_seq ?_
        refine wr_region ?_
        refine wo_val (.int .i64 (r.1.length : Int)) rfl pv_move ?_
        refine wo_val (.sl 4 (List.map rLeg r.1)) rfl pv_move ?_
        refine wo_val (.int .i64 (r.1.length : Int)) rfl (pv_len (len_sl ti39)) ?_
        refine wo_val (.bool (decide ((r.1.length : Int) < (r.1.length : Int)))) rfl (pv_bin rfl rfl rfl) ?_
        refine wo_nil ?_
        refine wr_condF rfl (Int.lt_irrefl _) ?_
        refine wr_exit rfl ?_
        refine wr_seq ?_
        refine wr_region ?_
        refine wo_val (.bool blocked) rfl pv_move ?_
        refine wo_nil ?_
        refine wf_iteb rfl (fun hc1 => ?_) (fun hc1 => ?_)
        · refine wr_region ?_
          refine wo_val v rfl pv_move ?_
          refine wo_val (.int .i64 (j : Int)) rfl pv_move ?_
          refine wo_bsC (e := (rI .i64)) (L := [(j : Int)]) (st := 1) (rows := [[(.int .i64 (j : Int))]]) rfl ti34 ti3 rfl rfl rfl rfl rfl (.cons (RowSim.refl _) .nil) (fun x => ok_I x) rfl rfl ?_
          refine of_need fun hl => ?_
          refine wo_append (e := (rI .i64)) (L := l) (L2 := [(j : Int)]) (v := v) (g := g1) (st := 1) (j := 1) hI rfl rfl rfl rfl vH rfl (src_sl rfl) ti34 ti34 rfl ti3 rfl rfl rfl hl fun v1 g2 vH1 => ?_
          refine wo_val v1 rfl pv_assign ?_
          refine wo_nil ?_
          refine wr_hp [(some (.rows g 8 [(rAirspace a)])), (ownO v1 g2 1 (List.map (rI .i64) (l ++ [(j : Int)])))] rfl ?_
          refine wr_inBlock ?_
          refine wr_region ?_
          refine wo_val (.int .i64 (j : Int)) rfl pv_move ?_
          refine wo_val (.int .i64 (IntKind.wrap .i64 ((j : Int) + 1))) rfl (pv_bin rfl rfl rfl) ?_
          refine wo_val (.int .i64 (IntKind.wrap .i64 ((j : Int) + 1))) rfl pv_assign ?_
          refine wo_nil ?_
          refine wr_is [(1, (.ptr (ix ids 0) g 0 0)), (4, v1), (5, (.int .i64 ((j + 1 : Nat) : Int)))] (.cons rfl (.cons rfl (.cons (inc_ok (lt_of_get ha1) hlim1) .nil))) ?_
          refine wb_each ?_
          refine hW (l ++ [(j : Int)]) _ _ ?_
          exact ⟨v1, g2, vH1, rfl, rfl⟩
        · refine wr_skip ?_
          refine wr_inBlock ?_
          refine wr_region ?_
          refine wo_val (.int .i64 (j : Int)) rfl pv_move ?_
          refine wo_val (.int .i64 (IntKind.wrap .i64 ((j : Int) + 1))) rfl (pv_bin rfl rfl rfl) ?_
          refine wo_val (.int .i64 (IntKind.wrap .i64 ((j : Int) + 1))) rfl pv_assign ?_
          refine wo_nil ?_
          refine wr_is [(1, (.ptr (ix ids 0) g 0 0)), (4, v), (5, (.int .i64 ((j + 1 : Nat) : Int)))] (.cons rfl (.cons rfl (.cons (inc_ok (lt_of_get ha1) hlim1) .nil))) ?_
          refine wb_each ?_
          refine hW l _ _ ?_
          exact ⟨v, g1, vH, rfl, rfl⟩
  · rintro l fr h ⟨v, g1, vH, rfl, rfl⟩
    refine wr_mod (alt_inl _ _ _) ?_
    refine wr_seq ?_
    refine wr_seq ?_
    refine wr_region ?_
    refine wo_val (.int .i64 (a.Routes.length : Int)) rfl pv_move ?_
    refine wo_val (.ptr (ix ids 0) g 0 4) rfl (pv_fa (fa_ptr (c := 0) (off := 4) (i := 4) ti31 rfl ti26 rfl)) ?_
    refine wo_val (.sl 7 (List.map rRoute a.Routes)) rfl (pv_load (ld_ptr hI rfl rfl rfl ti26 rfl)) ?_
    refine wo_val (.int .i64 (a.Routes.length : Int)) rfl (pv_len (len_sl ti26)) ?_
    refine wo_val (.bool (decide ((a.Routes.length : Int) < (a.Routes.length : Int)))) rfl (pv_bin rfl rfl rfl) ?_
    refine wo_nil ?_
    refine wr_condF rfl (Int.lt_irrefl _) ?_
    refine wr_exit rfl ?_
    refine wr_seq ?_
    refine wr_region ?_
    refine wo_val v rfl pv_move ?_
    refine wo_val v rfl pv_assign ?_
    refine wo_val (.int .i64 0) rfl pv_assign ?_
    refine wo_nil ?_
    exact wr_ret (a := (l, 0)) (vs := [v, (.int .i64 0)]) Try.func19 hI rfl (.tupL (.cons (own_fz vH (hI.at rfl rfl) (hI.out rfl) (fun x => ok_I x)) (.cons (.same _) .nil)))

theorem cp_law11_OpeningPassableSpec (a : Airspace) : CP Try.prog 4 [(.agg (rAirspace a))] (law11_OpeningPassableSpec a) (fun (x : Bool) => (AV.bool x)) := by
  refine cp_intro (n := 54) 1 Try.func4 rfl (by decide) rfl rfl fun h0 ids hI => ?_
  refine wr_in (wr_mod (law11_OpeningPassableSpec.eq_1 _) ?_)
  refine wr_seq ?_
  refine wr_region ?_
  refine wo_box (v := (.agg (rAirspace a))) (j := 0) hI rfl rfl rfl rfl rfl rfl rfl fun g => ?_
  refine wo_val (.bool false) rfl pv_assign ?_
  refine wo_nil ?_
  refine wr_hp [(some (.rows g 8 [(rAirspace a)]))] rfl ?_
  refine wr_seq ?_
  refine wr_seq ?_
  refine wr_region ?_
  refine of_call [] rfl rfl rfl rfl ((cp_law11_sane) _) (fun v _ => wu_pan Try.func4 hI) fun r _ => ?_
  refine wo_val (.bool (!r)) rfl (pv_un rfl) ?_
  refine wo_nil ?_
  refine wf_itebn rfl (fun hc => ?_) (fun hc => ?_)
  · refine wr_skip ?_
    refine wr_seq ?_
    refine wr_seq ?_
    refine wr_region ?_
    refine wo_val (.agg (rAirspace a)) rfl (pv_load (ld_ptr hI rfl rfl rfl ti31 rfl)) ?_
    refine of_call [(.agg (rAirspace a))] rfl rfl rfl rfl ((cp_ref11_Few a) _) (fun v _ => wu_pan Try.func4 hI) fun r1 _ => ?_
    refine wo_val (.bool (!r1)) rfl (pv_un rfl) ?_
    refine wo_nil ?_
    refine wf_itebn rfl (fun hc1 => ?_) (fun hc1 => ?_)
    · refine wr_skip ?_
      refine wr_seq ?_
      refine wr_region ?_
      refine wo_val (.agg (rAirspace a)) rfl (pv_load (ld_ptr hI rfl rfl rfl ti31 rfl)) ?_
      refine of_call [(.agg (rAirspace a))] rfl rfl rfl rfl ((cp_opening_Passable a) _) (fun v _ => wu_pan Try.func4 hI) fun r2 _ => ?_
      refine wo_val (.tup [(.sl 1 (List.map (rI .i64) r2.1)), (.int .i64 r2.2)]) rfl pv_move ?_
      refine wo_val (.sl 1 (List.map (rI .i64) r2.1)) rfl (pv_ext rfl) ?_
      refine wo_val (.int .i64 r2.2) rfl (pv_ext rfl) ?_
      refine wo_val (.sl 1 (List.map (rI .i64) r2.1)) rfl pv_assign ?_
      refine wo_val (.int .i64 r2.2) rfl pv_assign ?_
      refine wo_nil ?_
      refine wr_seq ?_
      refine wr_region ?_
      refine wo_val (.agg (rAirspace a)) rfl (pv_load (ld_ptr hI rfl rfl rfl ti31 rfl)) ?_
      refine of_call [(.agg (rAirspace a))] rfl rfl rfl rfl ((cp_ref11_Passable a) _) (fun v _ => wu_pan Try.func4 hI) fun r3 _ => ?_
      refine wo_val (.tup [(.sl 1 (List.map (rI .i64) r3.1)), (.int .i64 r3.2)]) rfl pv_move ?_
      refine wo_val (.sl 1 (List.map (rI .i64) r3.1)) rfl (pv_ext rfl) ?_
      refine wo_val (.int .i64 r3.2) rfl (pv_ext rfl) ?_
      refine wo_val (.sl 1 (List.map (rI .i64) r3.1)) rfl pv_assign ?_
      refine wo_val (.int .i64 r3.2) rfl pv_assign ?_
      refine wo_nil ?_
      refine wr_seq ?_
      refine wr_region ?_
      refine wo_val (.agg (rAirspace a)) rfl (pv_load (ld_ptr hI rfl rfl rfl ti31 rfl)) ?_
      refine of_call [(.agg (rAirspace a))] rfl rfl rfl rfl ((cp_opening_Blocked a) _) (fun v _ => wu_pan Try.func4 hI) fun r4 _ => ?_
      refine wo_val (.tup [(.sl 1 (List.map (rI .i64) r4.1)), (.int .i64 r4.2)]) rfl pv_move ?_
      refine wo_val (.sl 1 (List.map (rI .i64) r4.1)) rfl (pv_ext rfl) ?_
      refine wo_val (.int .i64 r4.2) rfl (pv_ext rfl) ?_
      refine wo_val (.sl 1 (List.map (rI .i64) r4.1)) rfl pv_assign ?_
      refine wo_val (.int .i64 r4.2) rfl pv_assign ?_
      refine wo_nil ?_
      refine wr_seq ?_
      refine wr_region ?_
      refine wo_val (.agg (rAirspace a)) rfl (pv_load (ld_ptr hI rfl rfl rfl ti31 rfl)) ?_
      refine of_call [(.agg (rAirspace a))] rfl rfl rfl rfl ((cp_ref11_Blocked a) _) (fun v _ => wu_pan Try.func4 hI) fun r5 _ => ?_
      refine wo_val (.tup [(.sl 1 (List.map (rI .i64) r5.1)), (.int .i64 r5.2)]) rfl pv_move ?_
      refine wo_val (.sl 1 (List.map (rI .i64) r5.1)) rfl (pv_ext rfl) ?_
      refine wo_val (.int .i64 r5.2) rfl (pv_ext rfl) ?_
      refine wo_val (.sl 1 (List.map (rI .i64) r5.1)) rfl pv_assign ?_
      refine wo_val (.int .i64 r5.2) rfl pv_assign ?_
      refine wo_nil ?_
      refine wr_seq ?_
      refine wr_region ?_
      refine wo_val (.sl 1 (List.map (rI .i64) r2.1)) rfl pv_move ?_
      refine wo_val (.sl 1 (List.map (rI .i64) r3.1)) rfl pv_move ?_
      refine of_call [(.sl 1 (List.map (rI .i64) r2.1)), (.sl 1 (List.map (rI .i64) r3.1))] rfl rfl rfl rfl ((cp_ref11_SameInts r2.1 r3.1) _) (fun v _ => wu_pan Try.func4 hI) fun r6 _ => ?_
      refine wo_val (.bool r6) rfl pv_move ?_
      refine wo_meet 4 [(7, (.sl 1 (List.map (rI .i64) r4.1))), (8, (.int .i64 r4.2)), (9, (.sl 1 (List.map (rI .i64) r5.1))), (10, (.int .i64 r5.2)), (43, (.bool (r6 && (r2.2 == r3.2))))] ?_ fun hJ => wo_cases r6 (fun hb1 => ?_) (fun hb1 => ?_)
      · refine wo_val (.bool (r6 && (r2.2 == r3.2))) rfl pv_move ?_
        refine wo_join 4 ((fun (b : Bool) => .ok (b && (r4.2 == r5.2))) : Bool → R Bool) (fun (b : Bool) (fr : Nat → AV) (h : AHeap) => fr = frA [(8, (.int .i64 r4.2)), (10, (.int .i64 r5.2)), (48, (.bool b))] ∧ h = hp h0 ids [(some (.rows g 8 [(rAirspace a)]))]) ?_ fun hJ1 => of_if1 (fun hb3 => ?_) (fun hb3 => ?_)
        · rintro b fr h ⟨rfl, rfl⟩
          refine wo_val (.bool b) rfl pv_move ?_
          refine wo_meet 4 [(53, (.bool (b && (r4.2 == r5.2))))] ?_ fun hJ2 => wo_cases b (fun hb5 => ?_) (fun hb5 => ?_)
          · refine wo_val (.bool (b && (r4.2 == r5.2))) rfl pv_assign ?_
            refine wo_nil ?_
            exact wr_ret (a := (b && (r4.2 == r5.2))) (vs := [(.bool (b && (r4.2 == r5.2)))]) Try.func4 hI rfl (.same _)
          · refine wo_valg (tj := 49) (.int .i64 r4.2) rfl (congrArg AV.bool hb5) rfl pv_move ?_
            refine wo_valg (tj := 49) (.int .i64 r5.2) rfl (congrArg AV.bool hb5) rfl pv_move ?_
            refine wo_valg (tj := 49) (.bool (r4.2 == r5.2)) rfl (congrArg AV.bool hb5) rfl (pv_bin rfl rfl rfl) ?_
            refine wo_val (.bool (r4.2 == r5.2)) rfl (pv_pick (t := true) (congrArg AV.bool hb5) rfl) ?_
            exact wo_is [(53, (.bool (b && (r4.2 == r5.2))))] (.cons (and_t hb5) .nil) hJ2
          · refine wo_not (tj := 49) (b := false) rfl (congrArg AV.bool hb5) rfl rfl ?_
            refine wo_not (tj := 49) (b := false) rfl (congrArg AV.bool hb5) rfl rfl ?_
            refine wo_not (tj := 49) (b := false) rfl (congrArg AV.bool hb5) rfl rfl ?_
            refine wo_val (.bool false) rfl (pv_pick (t := false) (congrArg AV.bool hb5) rfl) ?_
            exact wo_is [(53, (.bool (b && (r4.2 == r5.2))))] (.cons (and_f hb5) .nil) hJ2
        · refine wo_valg (tj := 44) (.sl 1 (List.map (rI .i64) r4.1)) rfl (congrArg AV.bool hb3) rfl pv_move ?_
          refine wo_valg (tj := 44) (.sl 1 (List.map (rI .i64) r5.1)) rfl (congrArg AV.bool hb3) rfl pv_move ?_
          refine of_call [(.sl 1 (List.map (rI .i64) r4.1)), (.sl 1 (List.map (rI .i64) r5.1))] rfl (wanted_yes (tj := 44) rfl (congrArg AV.bool hb3)) rfl rfl ((cp_ref11_SameInts r4.1 r5.1) _) (fun v _ => wu_pan Try.func4 hI) fun r7 _ => ?_
          refine wo_val (.bool r7) rfl (pv_pick (t := true) (congrArg AV.bool hb3) rfl) ?_
          refine wo_back1 ?_
          refine wo_is [(8, (.int .i64 r4.2)), (10, (.int .i64 r5.2)), (48, (.bool r7))] (.cons rfl (.cons rfl (.cons rfl .nil))) ?_
          exact hJ1 r7 _ _ ⟨rfl, rfl⟩
        · refine wo_not (tj := 44) (b := false) rfl (congrArg AV.bool hb3) rfl rfl ?_
          refine wo_not (tj := 44) (b := false) rfl (congrArg AV.bool hb3) rfl rfl ?_
          refine wo_not (tj := 44) (b := false) rfl (congrArg AV.bool hb3) rfl rfl ?_
          refine wo_val (.bool false) rfl (pv_pick (t := false) (congrArg AV.bool hb3) rfl) ?_
          refine wo_back1 ?_
          refine wo_is [(8, (.int .i64 r4.2)), (10, (.int .i64 r5.2)), (48, (.bool false))] (.cons rfl (.cons rfl (.cons rfl .nil))) ?_
          exact hJ1 false _ _ ⟨rfl, rfl⟩
      · refine wo_valg (tj := 39) (.int .i64 r2.2) rfl (congrArg AV.bool hb1) rfl pv_move ?_
        refine wo_valg (tj := 39) (.int .i64 r3.2) rfl (congrArg AV.bool hb1) rfl pv_move ?_
        refine wo_valg (tj := 39) (.bool (r2.2 == r3.2)) rfl (congrArg AV.bool hb1) rfl (pv_bin rfl rfl rfl) ?_
        refine wo_val (.bool (r2.2 == r3.2)) rfl (pv_pick (t := true) (congrArg AV.bool hb1) rfl) ?_
        exact wo_is [(7, (.sl 1 (List.map (rI .i64) r4.1))), (8, (.int .i64 r4.2)), (9, (.sl 1 (List.map (rI .i64) r5.1))), (10, (.int .i64 r5.2)), (43, (.bool (r6 && (r2.2 == r3.2))))] (.cons rfl (.cons rfl (.cons rfl (.cons rfl (.cons (and_t hb1) .nil))))) hJ
      · refine wo_not (tj := 39) (b := false) rfl (congrArg AV.bool hb1) rfl rfl ?_
        refine wo_not (tj := 39) (b := false) rfl (congrArg AV.bool hb1) rfl rfl ?_
        refine wo_not (tj := 39) (b := false) rfl (congrArg AV.bool hb1) rfl rfl ?_
        refine wo_val (.bool false) rfl (pv_pick (t := false) (congrArg AV.bool hb1) rfl) ?_
        exact wo_is [(7, (.sl 1 (List.map (rI .i64) r4.1))), (8, (.int .i64 r4.2)), (9, (.sl 1 (List.map (rI .i64) r5.1))), (10, (.int .i64 r5.2)), (43, (.bool (r6 && (r2.2 == r3.2))))] (.cons rfl (.cons rfl (.cons rfl (.cons rfl (.cons (and_f hb1) .nil))))) hJ
    · refine wr_seq ?_
      refine wr_region ?_
      refine wo_val (.bool true) rfl pv_assign ?_
      refine wo_nil ?_
      exact wr_ret (a := true) (vs := [(.bool true)]) Try.func4 hI rfl (.same _)
  · refine wr_seq ?_
    refine wr_region ?_
    refine wo_val (.bool false) rfl pv_assign ?_
    refine wo_nil ?_
    exact wr_ret (a := false) (vs := [(.bool false)]) Try.func4 hI rfl (.same _)

theorem cp_law11_has (l : (List Int)) (n : Int) : CP Try.prog 21 [(.sl 1 (List.map (rI .i64) l)), (.int .i64 n)] (law11_has l n) (fun (x : Bool) => (AV.bool x)) := by
  refine cp_intro (n := 18) 0 Try.func21 rfl (by decide) rfl rfl fun h0 ids hI => ?_
  refine wr_in (wr_mod (law11_has.eq_1 _ _) ?_)
  refine wr_seq ?_
  refine wr_region ?_
  refine wo_val (.bool false) rfl pv_assign ?_
  refine wo_nil ?_
  refine wr_seq ?_
  refine wr_seq ?_
  refine wr_region ?_
  refine wo_val (.int .i64 0) rfl pv_assign ?_
  refine wo_nil ?_
  refine wr_block ?_
  refine wr_is [(0, (.sl 1 (List.map (rI .i64) l))), (1, (.int .i64 n)), (5, (.int .i64 0))] (.cons rfl (.cons rfl (.cons rfl .nil))) ?_
  refine wf_each' (P := Try.prog) l (fun _ a => fun _ => law11_has_b1 n a) ((alt (fun _ => .ok false) (fun r => .ok r)) : (Unit ⊕ Bool) → R Bool)
    (fun j => fun _ => fun (fr : Nat → AV) (h : AHeap) => fr = frA [(0, (.sl 1 (List.map (rI .i64) l))), (1, (.int .i64 n)), (5, (.int .i64 (j : Int)))] ∧ h = hp h0 ids []) () ?_ ?_ ?_
  · exact ⟨rfl, rfl⟩
  · rintro j a ha W hW _ fr h ⟨rfl, rfl⟩
    refine wr_mod (m' := law11_has_b1 n a) rfl (wr_mod (law11_has_b1.eq_1 _ _) ?_)
    refine wr_seq ?_
    refine wr_seq ?_
    refine wr_region ?_
    refine wo_val (.int .i64 (j : Int)) rfl pv_move ?_
    refine wo_val (.sl 1 (List.map (rI .i64) l)) rfl pv_move ?_
    refine wo_val (.int .i64 (l.length : Int)) rfl (pv_len (len_sl ti34)) ?_
    refine wo_val (.bool (decide ((j : Int) < (l.length : Int)))) rfl (pv_bin rfl rfl rfl) ?_
    refine wo_nil ?_
    refine wr_lim (t := 0) (L := l) rfl fun hlim => ?_
    refine wr_condT rfl (Int.ofNat_lt.2 (lt_of_get ha)) ?_
    refine wr_skip ?_
    refine wr_seq ?_
    refine wr_block ?_
    refine wr_seq ?_
    refine wr_region ?_
    refine wo_val (.sl 1 (List.map (rI .i64) l)) rfl pv_move ?_
    refine wo_val (.int .i64 (j : Int)) rfl pv_move ?_
    refine wo_val (.cp [(.int .i64 a)] 0) rfl (pv_ixa (ixa_nat ti34 ti3 rfl ha)) ?_
    refine wo_val (.int .i64 a) rfl (pv_load (ld_cp ti3 rfl)) ?_
    refine wo_val (.int .i64 n) rfl pv_move ?_
    refine wo_val (.bool (a == n)) rfl (pv_bin rfl rfl rfl) ?_
    refine wo_nil ?_
    refine wf_iteb rfl (fun hc => ?_) (fun hc => ?_)
    · refine wr_seq ?_
      refine wr_region ?_
      refine wo_val (.bool true) rfl pv_assign ?_
      refine wo_nil ?_
      refine wx_each ?_
      refine w_altr ?_
      exact wr_ret (a := true) (vs := [(.bool true)]) Try.func21 hI rfl (.same _)
    · refine wr_skip ?_
      refine wr_inBlock ?_
      refine wr_region ?_
      refine wo_val (.int .i64 (j : Int)) rfl pv_move ?_
      refine wo_val (.int .i64 (IntKind.wrap .i64 ((j : Int) + 1))) rfl (pv_bin rfl rfl rfl) ?_
      refine wo_val (.int .i64 (IntKind.wrap .i64 ((j : Int) + 1))) rfl pv_assign ?_
      refine wo_nil ?_
      refine wr_is [(0, (.sl 1 (List.map (rI .i64) l))), (1, (.int .i64 n)), (5, (.int .i64 ((j + 1 : Nat) : Int)))] (.cons rfl (.cons rfl (.cons (inc_ok (lt_of_get ha) hlim) .nil))) ?_
      refine wb_each ?_
      refine hW () _ _ ?_
      exact ⟨rfl, rfl⟩
  · rintro _ fr h ⟨rfl, rfl⟩
    refine wr_mod (alt_inl _ _ _) ?_
    refine wr_seq ?_
    refine wr_seq ?_
    refine wr_region ?_
    refine wo_val (.int .i64 (l.length : Int)) rfl pv_move ?_
    refine wo_val (.sl 1 (List.map (rI .i64) l)) rfl pv_move ?_
    refine wo_val (.int .i64 (l.length : Int)) rfl (pv_len (len_sl ti34)) ?_
    refine wo_val (.bool (decide ((l.length : Int) < (l.length : Int)))) rfl (pv_bin rfl rfl rfl) ?_
    refine wo_nil ?_
    refine wr_condF rfl (Int.lt_irrefl _) ?_
    refine wr_exit rfl ?_
    refine wr_seq ?_
    refine wr_region ?_
    refine wo_val (.bool false) rfl pv_assign ?_
    refine wo_nil ?_
    exact wr_ret (a := false) (vs := [(.bool false)]) Try.func21 hI rfl (.same _)
end Go.Am

/- The models hold of the program. Written by dc.py. -/
import Derived.Test.YtjpafocobkhciaaNmW3
namespace Go.Am
open Go Go.Proofs
set_option maxRecDepth 100000
set_option linter.unusedSimpArgs false
set_option linter.unusedVariables false
theorem cpo_ref09_sectors (a : Airspace) : CPO Try.prog 49 [(.agg (rAirspace a))] (ref09_sectors a) 1 rS := by
  refine cpo_intro (n := 23) 1 Try.func49 rfl (by decide) rfl rfl fun h0 ids hI => ?_
  refine wr_in (wr_mod (ref09_sectors.eq_1 _) ?_)
  refine wr_seq ?_
  refine wr_region ?_
  refine wo_box (v := (.agg (rAirspace a))) (j := 1) hI rfl rfl rfl rfl rfl rfl rfl fun g => ?_
  refine wo_val .emp rfl pv_assign ?_
  refine wo_nil ?_
  refine wr_hp [none, (some (.rows g 8 [(rAirspace a)]))] rfl ?_
  refine wr_seq ?_
  refine wr_region ?_
  refine wo_bs0 rfl ti38 ti9 ?_
  refine wo_val .emp rfl pv_assign ?_
  refine wo_nil ?_
  refine wr_seq ?_
  refine wr_seq ?_
  refine wr_region ?_
  refine wo_val (.int .i64 0) rfl pv_assign ?_
  refine wo_nil ?_
  refine wr_block ?_
  refine wr_is [(1, (.ptr (ix ids 1) g 0 0)), (3, .emp), (4, (.int .i64 0))] (.cons rfl (.cons rfl (.cons rfl .nil))) ?_
  refine wf_eachS' a.Sectors (fun _ a1 => fun out => ref09_sectors_b1 a1 out) (((fun out => .ok out)) : _ → R (List Str))
    (fun j => fun out => fun (fr : Nat → AV) (h : AHeap) => ∃ (v : AV), ∃ (g1 : Nat), OwnV v (ix ids 0) g1 out.length ∧ fr = frA [(1, (.ptr (ix ids 1) g 0 0)), (3, v), (4, (.int .i64 (j : Int)))] ∧ h = hp h0 ids [(ownO v g1 1 (List.map rS out)), (some (.rows g 8 [(rAirspace a)]))]) [] ?_ ?_ ?_
  · exact ⟨.emp, 0, .nil, rfl, rfl⟩
  · rintro j a1 ha1 W hW out fr h ⟨v, g1, vH, rfl, rfl⟩
    refine wr_mod (m' := ref09_sectors_b1 a1 out) rfl (wr_mod (ref09_sectors_b1.eq_1 _ _) ?_)
    refine wr_seq ?_
    refine wr_seq ?_
    refine wr_region ?_
    refine wo_val (.int .i64 (j : Int)) rfl pv_move ?_
    refine wo_val (.ptr (ix ids 1) g 0 1) rfl (pv_fa (fa_ptr (c := 0) (off := 1) (i := 1) ti31 rfl ti23 rfl)) ?_
    refine wo_val (.sl 5 (List.map rSector a.Sectors)) rfl (pv_load (ld_ptr hI rfl rfl rfl ti23 rfl)) ?_
    refine wo_val (.int .i64 (a.Sectors.length : Int)) rfl (pv_len (len_sl ti23)) ?_
    refine wo_val (.bool (decide ((j : Int) < (a.Sectors.length : Int)))) rfl (pv_bin rfl rfl rfl) ?_
    refine wo_nil ?_
    refine wr_lim (t := 8) (L := a.Sectors) rfl fun hlim1 => ?_
    refine wr_condT rfl (Int.ofNat_lt.2 (lt_of_get ha1)) ?_
    refine wr_skip ?_
    refine wr_seq ?_
    refine wr_block ?_
    refine wr_region ?_
    refine wo_val v rfl pv_move ?_
    refine wo_val (.ptr (ix ids 1) g 0 1) rfl (pv_fa (fa_ptr (c := 0) (off := 1) (i := 1) ti31 rfl ti23 rfl)) ?_
    refine wo_val (.sl 5 (List.map rSector a.Sectors)) rfl (pv_load (ld_ptr hI rfl rfl rfl ti23 rfl)) ?_
    refine wo_val (.int .i64 (j : Int)) rfl pv_move ?_
    refine wo_val (.cp (rSector a1) 0) rfl (pv_ixa (ixa_nat ti23 ti53 rfl ha1)) ?_
    refine wo_val (.cp (rSector a1) 0) rfl (pv_fa (fa_cp (c := 0) (off := 0) (i := 0) ti53 rfl ti9 rfl)) ?_
    refine wo_val (.str a1.Name) rfl (pv_load (ld_cp ti9 rfl)) ?_
    refine wo_bsC (e := rS) (L := [a1.Name]) (st := 1) (rows := [[(.str a1.Name)]]) rfl ti38 ti9 rfl rfl rfl rfl rfl (.cons (RowSim.refl _) .nil) (fun x => ok_S x) rfl rfl ?_
    refine of_need fun hl => ?_
    refine wo_append (e := rS) (L := out) (L2 := [a1.Name]) (v := v) (g := g1) (st := 1) (j := 0) hI rfl rfl rfl rfl vH rfl (src_sl rfl) ti38 ti38 rfl ti9 rfl rfl rfl hl fun v1 g2 vH1 => ?_
    refine wo_val v1 rfl pv_assign ?_
    refine wo_nil ?_
    refine wr_hp [(ownO v1 g2 1 (List.map rS (out ++ [a1.Name]))), (some (.rows g 8 [(rAirspace a)]))] rfl ?_
    refine wr_inBlock ?_
    refine wr_region ?_
    refine wo_val (.int .i64 (j : Int)) rfl pv_move ?_
    refine wo_val (.int .i64 (IntKind.wrap .i64 ((j : Int) + 1))) rfl (pv_bin rfl rfl rfl) ?_
    refine wo_val (.int .i64 (IntKind.wrap .i64 ((j : Int) + 1))) rfl pv_assign ?_
    refine wo_nil ?_
    refine wr_is [(1, (.ptr (ix ids 1) g 0 0)), (3, v1), (4, (.int .i64 ((j + 1 : Nat) : Int)))] (.cons rfl (.cons rfl (.cons (inc_ok (lt_of_get ha1) hlim1) .nil))) ?_
    refine wb_S ?_
    refine hW (out ++ [a1.Name]) _ _ ?_
    exact ⟨v1, g2, vH1, rfl, rfl⟩
  · rintro out fr h ⟨v, g1, vH, rfl, rfl⟩
    refine wr_seq ?_
    refine wr_seq ?_
    refine wr_region ?_
    refine wo_val (.int .i64 (a.Sectors.length : Int)) rfl pv_move ?_
    refine wo_val (.ptr (ix ids 1) g 0 1) rfl (pv_fa (fa_ptr (c := 0) (off := 1) (i := 1) ti31 rfl ti23 rfl)) ?_
    refine wo_val (.sl 5 (List.map rSector a.Sectors)) rfl (pv_load (ld_ptr hI rfl rfl rfl ti23 rfl)) ?_
    refine wo_val (.int .i64 (a.Sectors.length : Int)) rfl (pv_len (len_sl ti23)) ?_
    refine wo_val (.bool (decide ((a.Sectors.length : Int) < (a.Sectors.length : Int)))) rfl (pv_bin rfl rfl rfl) ?_
    refine wo_nil ?_
    refine wr_condF rfl (Int.lt_irrefl _) ?_
    refine wr_exit rfl ?_
    refine wr_seq ?_
    refine wr_region ?_
    refine wo_val v rfl pv_move ?_
    refine wo_val v rfl pv_assign ?_
    refine wo_nil ?_
    exact wr_retO (a := out) (v := v) (g := g1) Try.func49 hI rfl rfl vH rfl
theorem cp_ref09_sectors (a : Airspace) : CP Try.prog 49 [(.agg (rAirspace a))] (ref09_sectors a) (fun (x : (List Str)) => (AV.sl 1 (List.map rS x))) := (cpo_ref09_sectors a).cp (fun x => ok_S x)

theorem cpo_ref09_configs (a : Airspace) : CPO Try.prog 63 [(.agg (rAirspace a))] (ref09_configs a) 1 rS := by
  refine cpo_intro (n := 23) 1 Try.func63 rfl (by decide) rfl rfl fun h0 ids hI => ?_
  refine wr_in (wr_mod (ref09_configs.eq_1 _) ?_)
  refine wr_seq ?_
  refine wr_region ?_
  refine wo_box (v := (.agg (rAirspace a))) (j := 1) hI rfl rfl rfl rfl rfl rfl rfl fun g => ?_
  refine wo_val .emp rfl pv_assign ?_
  refine wo_nil ?_
  refine wr_hp [none, (some (.rows g 8 [(rAirspace a)]))] rfl ?_
  refine wr_seq ?_
  refine wr_region ?_
  refine wo_bs0 rfl ti38 ti9 ?_
  refine wo_val .emp rfl pv_assign ?_
  refine wo_nil ?_
  refine wr_seq ?_
  refine wr_seq ?_
  refine wr_region ?_
  refine wo_val (.int .i64 0) rfl pv_assign ?_
  refine wo_nil ?_
  refine wr_block ?_
  refine wr_is [(1, (.ptr (ix ids 1) g 0 0)), (3, .emp), (4, (.int .i64 0))] (.cons rfl (.cons rfl (.cons rfl .nil))) ?_
  refine wf_eachS' a.Configs (fun _ a1 => fun out => ref09_configs_b1 a1 out) (((fun out => .ok out)) : _ → R (List Str))
    (fun j => fun out => fun (fr : Nat → AV) (h : AHeap) => ∃ (v : AV), ∃ (g1 : Nat), OwnV v (ix ids 0) g1 out.length ∧ fr = frA [(1, (.ptr (ix ids 1) g 0 0)), (3, v), (4, (.int .i64 (j : Int)))] ∧ h = hp h0 ids [(ownO v g1 1 (List.map rS out)), (some (.rows g 8 [(rAirspace a)]))]) [] ?_ ?_ ?_
  · exact ⟨.emp, 0, .nil, rfl, rfl⟩
  · rintro j a1 ha1 W hW out fr h ⟨v, g1, vH, rfl, rfl⟩
    refine wr_mod (m' := ref09_configs_b1 a1 out) rfl (wr_mod (ref09_configs_b1.eq_1 _ _) ?_)
    refine wr_seq ?_
    refine wr_seq ?_
    refine wr_region ?_
    refine wo_val (.int .i64 (j : Int)) rfl pv_move ?_
    refine wo_val (.ptr (ix ids 1) g 0 2) rfl (pv_fa (fa_ptr (c := 0) (off := 2) (i := 2) ti31 rfl ti24 rfl)) ?_
    refine wo_val (.sl 3 (List.map rConfig a.Configs)) rfl (pv_load (ld_ptr hI rfl rfl rfl ti24 rfl)) ?_
    refine wo_val (.int .i64 (a.Configs.length : Int)) rfl (pv_len (len_sl ti24)) ?_
    refine wo_val (.bool (decide ((j : Int) < (a.Configs.length : Int)))) rfl (pv_bin rfl rfl rfl) ?_
    refine wo_nil ?_
    refine wr_lim (t := 8) (L := a.Configs) rfl fun hlim1 => ?_
    refine wr_condT rfl (Int.ofNat_lt.2 (lt_of_get ha1)) ?_
    refine wr_skip ?_
    refine wr_seq ?_
    refine wr_block ?_
    refine wr_region ?_
    refine wo_val v rfl pv_move ?_
    refine wo_val (.ptr (ix ids 1) g 0 2) rfl (pv_fa (fa_ptr (c := 0) (off := 2) (i := 2) ti31 rfl ti24 rfl)) ?_
    refine wo_val (.sl 3 (List.map rConfig a.Configs)) rfl (pv_load (ld_ptr hI rfl rfl rfl ti24 rfl)) ?_
    refine wo_val (.int .i64 (j : Int)) rfl pv_move ?_
    refine wo_val (.cp (rConfig a1) 0) rfl (pv_ixa (ixa_nat ti24 ti55 rfl ha1)) ?_
    refine wo_val (.cp (rConfig a1) 0) rfl (pv_fa (fa_cp (c := 0) (off := 0) (i := 0) ti55 rfl ti9 rfl)) ?_
    refine wo_val (.str a1.Name) rfl (pv_load (ld_cp ti9 rfl)) ?_
    refine wo_bsC (e := rS) (L := [a1.Name]) (st := 1) (rows := [[(.str a1.Name)]]) rfl ti38 ti9 rfl rfl rfl rfl rfl (.cons (RowSim.refl _) .nil) (fun x => ok_S x) rfl rfl ?_
    refine of_need fun hl => ?_
    refine wo_append (e := rS) (L := out) (L2 := [a1.Name]) (v := v) (g := g1) (st := 1) (j := 0) hI rfl rfl rfl rfl vH rfl (src_sl rfl) ti38 ti38 rfl ti9 rfl rfl rfl hl fun v1 g2 vH1 => ?_
    refine wo_val v1 rfl pv_assign ?_
    refine wo_nil ?_
    refine wr_hp [(ownO v1 g2 1 (List.map rS (out ++ [a1.Name]))), (some (.rows g 8 [(rAirspace a)]))] rfl ?_
    refine wr_inBlock ?_
    refine wr_region ?_
    refine wo_val (.int .i64 (j : Int)) rfl pv_move ?_
    refine wo_val (.int .i64 (IntKind.wrap .i64 ((j : Int) + 1))) rfl (pv_bin rfl rfl rfl) ?_
    refine wo_val (.int .i64 (IntKind.wrap .i64 ((j : Int) + 1))) rfl pv_assign ?_
    refine wo_nil ?_
    refine wr_is [(1, (.ptr (ix ids 1) g 0 0)), (3, v1), (4, (.int .i64 ((j + 1 : Nat) : Int)))] (.cons rfl (.cons rfl (.cons (inc_ok (lt_of_get ha1) hlim1) .nil))) ?_
    refine wb_S ?_
    refine hW (out ++ [a1.Name]) _ _ ?_
    exact ⟨v1, g2, vH1, rfl, rfl⟩
  · rintro out fr h ⟨v, g1, vH, rfl, rfl⟩
    refine wr_seq ?_
    refine wr_seq ?_
    refine wr_region ?_
    refine wo_val (.int .i64 (a.Configs.length : Int)) rfl pv_move ?_
    refine wo_val (.ptr (ix ids 1) g 0 2) rfl (pv_fa (fa_ptr (c := 0) (off := 2) (i := 2) ti31 rfl ti24 rfl)) ?_
    refine wo_val (.sl 3 (List.map rConfig a.Configs)) rfl (pv_load (ld_ptr hI rfl rfl rfl ti24 rfl)) ?_
    refine wo_val (.int .i64 (a.Configs.length : Int)) rfl (pv_len (len_sl ti24)) ?_
    refine wo_val (.bool (decide ((a.Configs.length : Int) < (a.Configs.length : Int)))) rfl (pv_bin rfl rfl rfl) ?_
    refine wo_nil ?_
    refine wr_condF rfl (Int.lt_irrefl _) ?_
    refine wr_exit rfl ?_
    refine wr_seq ?_
    refine wr_region ?_
    refine wo_val v rfl pv_move ?_
    refine wo_val v rfl pv_assign ?_
    refine wo_nil ?_
    exact wr_retO (a := out) (v := v) (g := g1) Try.func63 hI rfl rfl vH rfl
theorem cp_ref09_configs (a : Airspace) : CP Try.prog 63 [(.agg (rAirspace a))] (ref09_configs a) (fun (x : (List Str)) => (AV.sl 1 (List.map rS x))) := (cpo_ref09_configs a).cp (fun x => ok_S x)

theorem cpo_ref09_segments (a : Airspace) : CPO Try.prog 50 [(.agg (rAirspace a))] (ref09_segments a) 1 rS := by
  refine cpo_intro (n := 23) 1 Try.func50 rfl (by decide) rfl rfl fun h0 ids hI => ?_
  refine wr_in (wr_mod (ref09_segments.eq_1 _) ?_)
  refine wr_seq ?_
  refine wr_region ?_
  refine wo_box (v := (.agg (rAirspace a))) (j := 1) hI rfl rfl rfl rfl rfl rfl rfl fun g => ?_
  refine wo_val .emp rfl pv_assign ?_
  refine wo_nil ?_
  refine wr_hp [none, (some (.rows g 8 [(rAirspace a)]))] rfl ?_
  refine wr_seq ?_
  refine wr_region ?_
  refine wo_bs0 rfl ti38 ti9 ?_
  refine wo_val .emp rfl pv_assign ?_
  refine wo_nil ?_
  refine wr_seq ?_
  refine wr_seq ?_
  refine wr_region ?_
  refine wo_val (.int .i64 0) rfl pv_assign ?_
  refine wo_nil ?_
  refine wr_block ?_
  refine wr_is [(1, (.ptr (ix ids 1) g 0 0)), (3, .emp), (4, (.int .i64 0))] (.cons rfl (.cons rfl (.cons rfl .nil))) ?_
  refine wf_eachS' a.Segments (fun _ a1 => fun out => ref09_segments_b1 a1 out) (((fun out => .ok out)) : _ → R (List Str))
    (fun j => fun out => fun (fr : Nat → AV) (h : AHeap) => ∃ (v : AV), ∃ (g1 : Nat), OwnV v (ix ids 0) g1 out.length ∧ fr = frA [(1, (.ptr (ix ids 1) g 0 0)), (3, v), (4, (.int .i64 (j : Int)))] ∧ h = hp h0 ids [(ownO v g1 1 (List.map rS out)), (some (.rows g 8 [(rAirspace a)]))]) [] ?_ ?_ ?_
  · exact ⟨.emp, 0, .nil, rfl, rfl⟩
  · rintro j a1 ha1 W hW out fr h ⟨v, g1, vH, rfl, rfl⟩
    refine wr_mod (m' := ref09_segments_b1 a1 out) rfl (wr_mod (ref09_segments_b1.eq_1 _ _) ?_)
    refine wr_seq ?_
    refine wr_seq ?_
    refine wr_region ?_
    refine wo_val (.int .i64 (j : Int)) rfl pv_move ?_
    refine wo_val (.ptr (ix ids 1) g 0 3) rfl (pv_fa (fa_ptr (c := 0) (off := 3) (i := 3) ti31 rfl ti25 rfl)) ?_
    refine wo_val (.sl 5 (List.map rSegment a.Segments)) rfl (pv_load (ld_ptr hI rfl rfl rfl ti25 rfl)) ?_
    refine wo_val (.int .i64 (a.Segments.length : Int)) rfl (pv_len (len_sl ti25)) ?_
    refine wo_val (.bool (decide ((j : Int) < (a.Segments.length : Int)))) rfl (pv_bin rfl rfl rfl) ?_
    refine wo_nil ?_
    refine wr_lim (t := 8) (L := a.Segments) rfl fun hlim1 => ?_
    refine wr_condT rfl (Int.ofNat_lt.2 (lt_of_get ha1)) ?_
    refine wr_skip ?_
    refine wr_seq ?_
    refine wr_block ?_
    refine wr_region ?_
    refine wo_val v rfl pv_move ?_
    refine wo_val (.ptr (ix ids 1) g 0 3) rfl (pv_fa (fa_ptr (c := 0) (off := 3) (i := 3) ti31 rfl ti25 rfl)) ?_
    refine wo_val (.sl 5 (List.map rSegment a.Segments)) rfl (pv_load (ld_ptr hI rfl rfl rfl ti25 rfl)) ?_
    refine wo_val (.int .i64 (j : Int)) rfl pv_move ?_
    refine wo_val (.cp (rSegment a1) 0) rfl (pv_ixa (ixa_nat ti25 ti57 rfl ha1)) ?_
    refine wo_val (.cp (rSegment a1) 0) rfl (pv_fa (fa_cp (c := 0) (off := 0) (i := 0) ti57 rfl ti9 rfl)) ?_
    refine wo_val (.str a1.Name) rfl (pv_load (ld_cp ti9 rfl)) ?_
    refine wo_bsC (e := rS) (L := [a1.Name]) (st := 1) (rows := [[(.str a1.Name)]]) rfl ti38 ti9 rfl rfl rfl rfl rfl (.cons (RowSim.refl _) .nil) (fun x => ok_S x) rfl rfl ?_
    refine of_need fun hl => ?_
    refine wo_append (e := rS) (L := out) (L2 := [a1.Name]) (v := v) (g := g1) (st := 1) (j := 0) hI rfl rfl rfl rfl vH rfl (src_sl rfl) ti38 ti38 rfl ti9 rfl rfl rfl hl fun v1 g2 vH1 => ?_
    refine wo_val v1 rfl pv_assign ?_
    refine wo_nil ?_
    refine wr_hp [(ownO v1 g2 1 (List.map rS (out ++ [a1.Name]))), (some (.rows g 8 [(rAirspace a)]))] rfl ?_
    refine wr_inBlock ?_
    refine wr_region ?_
    refine wo_val (.int .i64 (j : Int)) rfl pv_move ?_
    refine wo_val (.int .i64 (IntKind.wrap .i64 ((j : Int) + 1))) rfl (pv_bin rfl rfl rfl) ?_
    refine wo_val (.int .i64 (IntKind.wrap .i64 ((j : Int) + 1))) rfl pv_assign ?_
    refine wo_nil ?_
    refine wr_is [(1, (.ptr (ix ids 1) g 0 0)), (3, v1), (4, (.int .i64 ((j + 1 : Nat) : Int)))] (.cons rfl (.cons rfl (.cons (inc_ok (lt_of_get ha1) hlim1) .nil))) ?_
    refine wb_S ?_
    refine hW (out ++ [a1.Name]) _ _ ?_
    exact ⟨v1, g2, vH1, rfl, rfl⟩
  · rintro out fr h ⟨v, g1, vH, rfl, rfl⟩
    refine wr_seq ?_
    refine wr_seq ?_
    refine wr_region ?_
    refine wo_val (.int .i64 (a.Segments.length : Int)) rfl pv_move ?_
    refine wo_val (.ptr (ix ids 1) g 0 3) rfl (pv_fa (fa_ptr (c := 0) (off := 3) (i := 3) ti31 rfl ti25 rfl)) ?_
    refine wo_val (.sl 5 (List.map rSegment a.Segments)) rfl (pv_load (ld_ptr hI rfl rfl rfl ti25 rfl)) ?_
    refine wo_val (.int .i64 (a.Segments.length : Int)) rfl (pv_len (len_sl ti25)) ?_
    refine wo_val (.bool (decide ((a.Segments.length : Int) < (a.Segments.length : Int)))) rfl (pv_bin rfl rfl rfl) ?_
    refine wo_nil ?_
    refine wr_condF rfl (Int.lt_irrefl _) ?_
    refine wr_exit rfl ?_
    refine wr_seq ?_
    refine wr_region ?_
    refine wo_val v rfl pv_move ?_
    refine wo_val v rfl pv_assign ?_
    refine wo_nil ?_
    exact wr_retO (a := out) (v := v) (g := g1) Try.func50 hI rfl rfl vH rfl
theorem cp_ref09_segments (a : Airspace) : CP Try.prog 50 [(.agg (rAirspace a))] (ref09_segments a) (fun (x : (List Str)) => (AV.sl 1 (List.map rS x))) := (cpo_ref09_segments a).cp (fun x => ok_S x)

theorem cpo_ref09_routes (a : Airspace) : CPO Try.prog 64 [(.agg (rAirspace a))] (ref09_routes a) 1 rS := by
  refine cpo_intro (n := 23) 1 Try.func64 rfl (by decide) rfl rfl fun h0 ids hI => ?_
  refine wr_in (wr_mod (ref09_routes.eq_1 _) ?_)
  refine wr_seq ?_
  refine wr_region ?_
  refine wo_box (v := (.agg (rAirspace a))) (j := 1) hI rfl rfl rfl rfl rfl rfl rfl fun g => ?_
  refine wo_val .emp rfl pv_assign ?_
  refine wo_nil ?_
  refine wr_hp [none, (some (.rows g 8 [(rAirspace a)]))] rfl ?_
  refine wr_seq ?_
  refine wr_region ?_
  refine wo_bs0 rfl ti38 ti9 ?_
  refine wo_val .emp rfl pv_assign ?_
  refine wo_nil ?_
  refine wr_seq ?_
  refine wr_seq ?_
  refine wr_region ?_
  refine wo_val (.int .i64 0) rfl pv_assign ?_
  refine wo_nil ?_
  refine wr_block ?_
  refine wr_is [(1, (.ptr (ix ids 1) g 0 0)), (3, .emp), (4, (.int .i64 0))] (.cons rfl (.cons rfl (.cons rfl .nil))) ?_
  refine wf_eachS' a.Routes (fun _ a1 => fun out => ref09_routes_b1 a1 out) (((fun out => .ok out)) : _ → R (List Str))
    (fun j => fun out => fun (fr : Nat → AV) (h : AHeap) => ∃ (v : AV), ∃ (g1 : Nat), OwnV v (ix ids 0) g1 out.length ∧ fr = frA [(1, (.ptr (ix ids 1) g 0 0)), (3, v), (4, (.int .i64 (j : Int)))] ∧ h = hp h0 ids [(ownO v g1 1 (List.map rS out)), (some (.rows g 8 [(rAirspace a)]))]) [] ?_ ?_ ?_
  · exact ⟨.emp, 0, .nil, rfl, rfl⟩
  · rintro j a1 ha1 W hW out fr h ⟨v, g1, vH, rfl, rfl⟩
    refine wr_mod (m' := ref09_routes_b1 a1 out) rfl (wr_mod (ref09_routes_b1.eq_1 _ _) ?_)
    refine wr_seq ?_
    refine wr_seq ?_
    refine wr_region ?_
    refine wo_val (.int .i64 (j : Int)) rfl pv_move ?_
    refine wo_val (.ptr (ix ids 1) g 0 4) rfl (pv_fa (fa_ptr (c := 0) (off := 4) (i := 4) ti31 rfl ti26 rfl)) ?_
    refine wo_val (.sl 7 (List.map rRoute a.Routes)) rfl (pv_load (ld_ptr hI rfl rfl rfl ti26 rfl)) ?_
    refine wo_val (.int .i64 (a.Routes.length : Int)) rfl (pv_len (len_sl ti26)) ?_
    refine wo_val (.bool (decide ((j : Int) < (a.Routes.length : Int)))) rfl (pv_bin rfl rfl rfl) ?_
    refine wo_nil ?_
    refine wr_lim (t := 8) (L := a.Routes) rfl fun hlim1 => ?_
    refine wr_condT rfl (Int.ofNat_lt.2 (lt_of_get ha1)) ?_
    refine wr_skip ?_
    refine wr_seq ?_
    refine wr_block ?_
    refine wr_region ?_
    refine wo_val v rfl pv_move ?_
    refine wo_val (.ptr (ix ids 1) g 0 4) rfl (pv_fa (fa_ptr (c := 0) (off := 4) (i := 4) ti31 rfl ti26 rfl)) ?_
    refine wo_val (.sl 7 (List.map rRoute a.Routes)) rfl (pv_load (ld_ptr hI rfl rfl rfl ti26 rfl)) ?_
    refine wo_val (.int .i64 (j : Int)) rfl pv_move ?_
    refine wo_val (.cp (rRoute a1) 0) rfl (pv_ixa (ixa_nat ti26 ti59 rfl ha1)) ?_
    refine wo_val (.cp (rRoute a1) 0) rfl (pv_fa (fa_cp (c := 0) (off := 0) (i := 0) ti59 rfl ti9 rfl)) ?_
    refine wo_val (.str a1.Name) rfl (pv_load (ld_cp ti9 rfl)) ?_
    refine wo_bsC (e := rS) (L := [a1.Name]) (st := 1) (rows := [[(.str a1.Name)]]) rfl ti38 ti9 rfl rfl rfl rfl rfl (.cons (RowSim.refl _) .nil) (fun x => ok_S x) rfl rfl ?_
    refine of_need fun hl => ?_
    refine wo_append (e := rS) (L := out) (L2 := [a1.Name]) (v := v) (g := g1) (st := 1) (j := 0) hI rfl rfl rfl rfl vH rfl (src_sl rfl) ti38 ti38 rfl ti9 rfl rfl rfl hl fun v1 g2 vH1 => ?_
    refine wo_val v1 rfl pv_assign ?_
    refine wo_nil ?_
    refine wr_hp [(ownO v1 g2 1 (List.map rS (out ++ [a1.Name]))), (some (.rows g 8 [(rAirspace a)]))] rfl ?_
    refine wr_inBlock ?_
    refine wr_region ?_
    refine wo_val (.int .i64 (j : Int)) rfl pv_move ?_
    refine wo_val (.int .i64 (IntKind.wrap .i64 ((j : Int) + 1))) rfl (pv_bin rfl rfl rfl) ?_
    refine wo_val (.int .i64 (IntKind.wrap .i64 ((j : Int) + 1))) rfl pv_assign ?_
    refine wo_nil ?_
    refine wr_is [(1, (.ptr (ix ids 1) g 0 0)), (3, v1), (4, (.int .i64 ((j + 1 : Nat) : Int)))] (.cons rfl (.cons rfl (.cons (inc_ok (lt_of_get ha1) hlim1) .nil))) ?_
    refine wb_S ?_
    refine hW (out ++ [a1.Name]) _ _ ?_
    exact ⟨v1, g2, vH1, rfl, rfl⟩
  · rintro out fr h ⟨v, g1, vH, rfl, rfl⟩
    refine wr_seq ?_
    refine wr_seq ?_
    refine wr_region ?_
    refine wo_val (.int .i64 (a.Routes.length : Int)) rfl pv_move ?_
    refine wo_val (.ptr (ix ids 1) g 0 4) rfl (pv_fa (fa_ptr (c := 0) (off := 4) (i := 4) ti31 rfl ti26 rfl)) ?_
    refine wo_val (.sl 7 (List.map rRoute a.Routes)) rfl (pv_load (ld_ptr hI rfl rfl rfl ti26 rfl)) ?_
    refine wo_val (.int .i64 (a.Routes.length : Int)) rfl (pv_len (len_sl ti26)) ?_
    refine wo_val (.bool (decide ((a.Routes.length : Int) < (a.Routes.length : Int)))) rfl (pv_bin rfl rfl rfl) ?_
    refine wo_nil ?_
    refine wr_condF rfl (Int.lt_irrefl _) ?_
    refine wr_exit rfl ?_
    refine wr_seq ?_
    refine wr_region ?_
    refine wo_val v rfl pv_move ?_
    refine wo_val v rfl pv_assign ?_
    refine wo_nil ?_
    exact wr_retO (a := out) (v := v) (g := g1) Try.func64 hI rfl rfl vH rfl
theorem cp_ref09_routes (a : Airspace) : CP Try.prog 64 [(.agg (rAirspace a))] (ref09_routes a) (fun (x : (List Str)) => (AV.sl 1 (List.map rS x))) := (cpo_ref09_routes a).cp (fun x => ok_S x)

theorem cpo_ref09_airports (a : Airspace) : CPO Try.prog 51 [(.agg (rAirspace a))] (ref09_airports a) 1 rS := by
  refine cpo_intro (n := 23) 1 Try.func51 rfl (by decide) rfl rfl fun h0 ids hI => ?_
  refine wr_in (wr_mod (ref09_airports.eq_1 _) ?_)
  refine wr_seq ?_
  refine wr_region ?_
  refine wo_box (v := (.agg (rAirspace a))) (j := 1) hI rfl rfl rfl rfl rfl rfl rfl fun g => ?_
  refine wo_val .emp rfl pv_assign ?_
  refine wo_nil ?_
  refine wr_hp [none, (some (.rows g 8 [(rAirspace a)]))] rfl ?_
  refine wr_seq ?_
  refine wr_region ?_
  refine wo_bs0 rfl ti38 ti9 ?_
  refine wo_val .emp rfl pv_assign ?_
  refine wo_nil ?_
  refine wr_seq ?_
  refine wr_seq ?_
  refine wr_region ?_
  refine wo_val (.int .i64 0) rfl pv_assign ?_
  refine wo_nil ?_
  refine wr_block ?_
  refine wr_is [(1, (.ptr (ix ids 1) g 0 0)), (3, .emp), (4, (.int .i64 0))] (.cons rfl (.cons rfl (.cons rfl .nil))) ?_
  refine wf_eachS' a.Airports (fun _ a1 => fun out => ref09_airports_b1 a1 out) (((fun out => .ok out)) : _ → R (List Str))
    (fun j => fun out => fun (fr : Nat → AV) (h : AHeap) => ∃ (v : AV), ∃ (g1 : Nat), OwnV v (ix ids 0) g1 out.length ∧ fr = frA [(1, (.ptr (ix ids 1) g 0 0)), (3, v), (4, (.int .i64 (j : Int)))] ∧ h = hp h0 ids [(ownO v g1 1 (List.map rS out)), (some (.rows g 8 [(rAirspace a)]))]) [] ?_ ?_ ?_
  · exact ⟨.emp, 0, .nil, rfl, rfl⟩
  · rintro j a1 ha1 W hW out fr h ⟨v, g1, vH, rfl, rfl⟩
    refine wr_mod (m' := ref09_airports_b1 a1 out) rfl (wr_mod (ref09_airports_b1.eq_1 _ _) ?_)
    refine wr_seq ?_
    refine wr_seq ?_
    refine wr_region ?_
    refine wo_val (.int .i64 (j : Int)) rfl pv_move ?_
    refine wo_val (.ptr (ix ids 1) g 0 5) rfl (pv_fa (fa_ptr (c := 0) (off := 5) (i := 5) ti31 rfl ti27 rfl)) ?_
    refine wo_val (.sl 2 (List.map rAirport a.Airports)) rfl (pv_load (ld_ptr hI rfl rfl rfl ti27 rfl)) ?_
    refine wo_val (.int .i64 (a.Airports.length : Int)) rfl (pv_len (len_sl ti27)) ?_
    refine wo_val (.bool (decide ((j : Int) < (a.Airports.length : Int)))) rfl (pv_bin rfl rfl rfl) ?_
    refine wo_nil ?_
    refine wr_lim (t := 8) (L := a.Airports) rfl fun hlim1 => ?_
    refine wr_condT rfl (Int.ofNat_lt.2 (lt_of_get ha1)) ?_
    refine wr_skip ?_
    refine wr_seq ?_
    refine wr_block ?_
    refine wr_region ?_
    refine wo_val v rfl pv_move ?_
    refine wo_val (.ptr (ix ids 1) g 0 5) rfl (pv_fa (fa_ptr (c := 0) (off := 5) (i := 5) ti31 rfl ti27 rfl)) ?_
    refine wo_val (.sl 2 (List.map rAirport a.Airports)) rfl (pv_load (ld_ptr hI rfl rfl rfl ti27 rfl)) ?_
    refine wo_val (.int .i64 (j : Int)) rfl pv_move ?_
    refine wo_val (.cp (rAirport a1) 0) rfl (pv_ixa (ixa_nat ti27 ti46 rfl ha1)) ?_
    refine wo_val (.cp (rAirport a1) 0) rfl (pv_fa (fa_cp (c := 0) (off := 0) (i := 0) ti46 rfl ti9 rfl)) ?_
    refine wo_val (.str a1.Name) rfl (pv_load (ld_cp ti9 rfl)) ?_
    refine wo_bsC (e := rS) (L := [a1.Name]) (st := 1) (rows := [[(.str a1.Name)]]) rfl ti38 ti9 rfl rfl rfl rfl rfl (.cons (RowSim.refl _) .nil) (fun x => ok_S x) rfl rfl ?_
    refine of_need fun hl => ?_
    refine wo_append (e := rS) (L := out) (L2 := [a1.Name]) (v := v) (g := g1) (st := 1) (j := 0) hI rfl rfl rfl rfl vH rfl (src_sl rfl) ti38 ti38 rfl ti9 rfl rfl rfl hl fun v1 g2 vH1 => ?_
    refine wo_val v1 rfl pv_assign ?_
    refine wo_nil ?_
    refine wr_hp [(ownO v1 g2 1 (List.map rS (out ++ [a1.Name]))), (some (.rows g 8 [(rAirspace a)]))] rfl ?_
    refine wr_inBlock ?_
    refine wr_region ?_
    refine wo_val (.int .i64 (j : Int)) rfl pv_move ?_
    refine wo_val (.int .i64 (IntKind.wrap .i64 ((j : Int) + 1))) rfl (pv_bin rfl rfl rfl) ?_
    refine wo_val (.int .i64 (IntKind.wrap .i64 ((j : Int) + 1))) rfl pv_assign ?_
    refine wo_nil ?_
    refine wr_is [(1, (.ptr (ix ids 1) g 0 0)), (3, v1), (4, (.int .i64 ((j + 1 : Nat) : Int)))] (.cons rfl (.cons rfl (.cons (inc_ok (lt_of_get ha1) hlim1) .nil))) ?_
    refine wb_S ?_
    refine hW (out ++ [a1.Name]) _ _ ?_
    exact ⟨v1, g2, vH1, rfl, rfl⟩
  · rintro out fr h ⟨v, g1, vH, rfl, rfl⟩
    refine wr_seq ?_
    refine wr_seq ?_
    refine wr_region ?_
    refine wo_val (.int .i64 (a.Airports.length : Int)) rfl pv_move ?_
    refine wo_val (.ptr (ix ids 1) g 0 5) rfl (pv_fa (fa_ptr (c := 0) (off := 5) (i := 5) ti31 rfl ti27 rfl)) ?_
    refine wo_val (.sl 2 (List.map rAirport a.Airports)) rfl (pv_load (ld_ptr hI rfl rfl rfl ti27 rfl)) ?_
    refine wo_val (.int .i64 (a.Airports.length : Int)) rfl (pv_len (len_sl ti27)) ?_
    refine wo_val (.bool (decide ((a.Airports.length : Int) < (a.Airports.length : Int)))) rfl (pv_bin rfl rfl rfl) ?_
    refine wo_nil ?_
    refine wr_condF rfl (Int.lt_irrefl _) ?_
    refine wr_exit rfl ?_
    refine wr_seq ?_
    refine wr_region ?_
    refine wo_val v rfl pv_move ?_
    refine wo_val v rfl pv_assign ?_
    refine wo_nil ?_
    exact wr_retO (a := out) (v := v) (g := g1) Try.func51 hI rfl rfl vH rfl
theorem cp_ref09_airports (a : Airspace) : CP Try.prog 51 [(.agg (rAirspace a))] (ref09_airports a) (fun (x : (List Str)) => (AV.sl 1 (List.map rS x))) := (cpo_ref09_airports a).cp (fun x => ok_S x)

theorem cpo_ref09_classes (a : Airspace) : CPO Try.prog 52 [(.agg (rAirspace a))] (ref09_classes a) 1 rS := by
  refine cpo_intro (n := 23) 1 Try.func52 rfl (by decide) rfl rfl fun h0 ids hI => ?_
  refine wr_in (wr_mod (ref09_classes.eq_1 _) ?_)
  refine wr_seq ?_
  refine wr_region ?_
  refine wo_box (v := (.agg (rAirspace a))) (j := 1) hI rfl rfl rfl rfl rfl rfl rfl fun g => ?_
  refine wo_val .emp rfl pv_assign ?_
  refine wo_nil ?_
  refine wr_hp [none, (some (.rows g 8 [(rAirspace a)]))] rfl ?_
  refine wr_seq ?_
  refine wr_region ?_
  refine wo_bs0 rfl ti38 ti9 ?_
  refine wo_val .emp rfl pv_assign ?_
  refine wo_nil ?_
  refine wr_seq ?_
  refine wr_seq ?_
  refine wr_region ?_
  refine wo_val (.int .i64 0) rfl pv_assign ?_
  refine wo_nil ?_
  refine wr_block ?_
  refine wr_is [(1, (.ptr (ix ids 1) g 0 0)), (3, .emp), (4, (.int .i64 0))] (.cons rfl (.cons rfl (.cons rfl .nil))) ?_
  refine wf_eachS' a.Classes (fun _ a1 => fun out => ref09_classes_b1 a1 out) (((fun out => .ok out)) : _ → R (List Str))
    (fun j => fun out => fun (fr : Nat → AV) (h : AHeap) => ∃ (v : AV), ∃ (g1 : Nat), OwnV v (ix ids 0) g1 out.length ∧ fr = frA [(1, (.ptr (ix ids 1) g 0 0)), (3, v), (4, (.int .i64 (j : Int)))] ∧ h = hp h0 ids [(ownO v g1 1 (List.map rS out)), (some (.rows g 8 [(rAirspace a)]))]) [] ?_ ?_ ?_
  · exact ⟨.emp, 0, .nil, rfl, rfl⟩
  · rintro j a1 ha1 W hW out fr h ⟨v, g1, vH, rfl, rfl⟩
    refine wr_mod (m' := ref09_classes_b1 a1 out) rfl (wr_mod (ref09_classes_b1.eq_1 _ _) ?_)
    refine wr_seq ?_
    refine wr_seq ?_
    refine wr_region ?_
    refine wo_val (.int .i64 (j : Int)) rfl pv_move ?_
    refine wo_val (.ptr (ix ids 1) g 0 6) rfl (pv_fa (fa_ptr (c := 0) (off := 6) (i := 6) ti31 rfl ti28 rfl)) ?_
    refine wo_val (.sl 4 (List.map rClass a.Classes)) rfl (pv_load (ld_ptr hI rfl rfl rfl ti28 rfl)) ?_
    refine wo_val (.int .i64 (a.Classes.length : Int)) rfl (pv_len (len_sl ti28)) ?_
    refine wo_val (.bool (decide ((j : Int) < (a.Classes.length : Int)))) rfl (pv_bin rfl rfl rfl) ?_
    refine wo_nil ?_
    refine wr_lim (t := 8) (L := a.Classes) rfl fun hlim1 => ?_
    refine wr_condT rfl (Int.ofNat_lt.2 (lt_of_get ha1)) ?_
    refine wr_skip ?_
    refine wr_seq ?_
    refine wr_block ?_
    refine wr_region ?_
    refine wo_val v rfl pv_move ?_
    refine wo_val (.ptr (ix ids 1) g 0 6) rfl (pv_fa (fa_ptr (c := 0) (off := 6) (i := 6) ti31 rfl ti28 rfl)) ?_
    refine wo_val (.sl 4 (List.map rClass a.Classes)) rfl (pv_load (ld_ptr hI rfl rfl rfl ti28 rfl)) ?_
    refine wo_val (.int .i64 (j : Int)) rfl pv_move ?_
    refine wo_val (.cp (rClass a1) 0) rfl (pv_ixa (ixa_nat ti28 ti43 rfl ha1)) ?_
    refine wo_val (.cp (rClass a1) 0) rfl (pv_fa (fa_cp (c := 0) (off := 0) (i := 0) ti43 rfl ti9 rfl)) ?_
    refine wo_val (.str a1.Name) rfl (pv_load (ld_cp ti9 rfl)) ?_
    refine wo_bsC (e := rS) (L := [a1.Name]) (st := 1) (rows := [[(.str a1.Name)]]) rfl ti38 ti9 rfl rfl rfl rfl rfl (.cons (RowSim.refl _) .nil) (fun x => ok_S x) rfl rfl ?_
    refine of_need fun hl => ?_
    refine wo_append (e := rS) (L := out) (L2 := [a1.Name]) (v := v) (g := g1) (st := 1) (j := 0) hI rfl rfl rfl rfl vH rfl (src_sl rfl) ti38 ti38 rfl ti9 rfl rfl rfl hl fun v1 g2 vH1 => ?_
    refine wo_val v1 rfl pv_assign ?_
    refine wo_nil ?_
    refine wr_hp [(ownO v1 g2 1 (List.map rS (out ++ [a1.Name]))), (some (.rows g 8 [(rAirspace a)]))] rfl ?_
    refine wr_inBlock ?_
    refine wr_region ?_
    refine wo_val (.int .i64 (j : Int)) rfl pv_move ?_
    refine wo_val (.int .i64 (IntKind.wrap .i64 ((j : Int) + 1))) rfl (pv_bin rfl rfl rfl) ?_
    refine wo_val (.int .i64 (IntKind.wrap .i64 ((j : Int) + 1))) rfl pv_assign ?_
    refine wo_nil ?_
    refine wr_is [(1, (.ptr (ix ids 1) g 0 0)), (3, v1), (4, (.int .i64 ((j + 1 : Nat) : Int)))] (.cons rfl (.cons rfl (.cons (inc_ok (lt_of_get ha1) hlim1) .nil))) ?_
    refine wb_S ?_
    refine hW (out ++ [a1.Name]) _ _ ?_
    exact ⟨v1, g2, vH1, rfl, rfl⟩
  · rintro out fr h ⟨v, g1, vH, rfl, rfl⟩
    refine wr_seq ?_
    refine wr_seq ?_
    refine wr_region ?_
    refine wo_val (.int .i64 (a.Classes.length : Int)) rfl pv_move ?_
    refine wo_val (.ptr (ix ids 1) g 0 6) rfl (pv_fa (fa_ptr (c := 0) (off := 6) (i := 6) ti31 rfl ti28 rfl)) ?_
    refine wo_val (.sl 4 (List.map rClass a.Classes)) rfl (pv_load (ld_ptr hI rfl rfl rfl ti28 rfl)) ?_
    refine wo_val (.int .i64 (a.Classes.length : Int)) rfl (pv_len (len_sl ti28)) ?_
    refine wo_val (.bool (decide ((a.Classes.length : Int) < (a.Classes.length : Int)))) rfl (pv_bin rfl rfl rfl) ?_
    refine wo_nil ?_
    refine wr_condF rfl (Int.lt_irrefl _) ?_
    refine wr_exit rfl ?_
    refine wr_seq ?_
    refine wr_region ?_
    refine wo_val v rfl pv_move ?_
    refine wo_val v rfl pv_assign ?_
    refine wo_nil ?_
    exact wr_retO (a := out) (v := v) (g := g1) Try.func52 hI rfl rfl vH rfl
theorem cp_ref09_classes (a : Airspace) : CP Try.prog 52 [(.agg (rAirspace a))] (ref09_classes a) (fun (x : (List Str)) => (AV.sl 1 (List.map rS x))) := (cpo_ref09_classes a).cp (fun x => ok_S x)

theorem cpo_ref09_modes (a : Airport) : CPO Try.prog 65 [(.agg (rAirport a))] (ref09_modes a) 1 rS := by
  refine cpo_intro (n := 23) 1 Try.func65 rfl (by decide) rfl rfl fun h0 ids hI => ?_
  refine wr_in (wr_mod (ref09_modes.eq_1 _) ?_)
  refine wr_seq ?_
  refine wr_region ?_
  refine wo_box (v := (.agg (rAirport a))) (j := 1) hI rfl rfl rfl rfl rfl rfl rfl fun g => ?_
  refine wo_val .emp rfl pv_assign ?_
  refine wo_nil ?_
  refine wr_hp [none, (some (.rows g 2 [(rAirport a)]))] rfl ?_
  refine wr_seq ?_
  refine wr_region ?_
  refine wo_bs0 rfl ti38 ti9 ?_
  refine wo_val .emp rfl pv_assign ?_
  refine wo_nil ?_
  refine wr_seq ?_
  refine wr_seq ?_
  refine wr_region ?_
  refine wo_val (.int .i64 0) rfl pv_assign ?_
  refine wo_nil ?_
  refine wr_block ?_
  refine wr_is [(1, (.ptr (ix ids 1) g 0 0)), (3, .emp), (4, (.int .i64 0))] (.cons rfl (.cons rfl (.cons rfl .nil))) ?_
  refine wf_eachS' a.Modes (fun _ a1 => fun out => ref09_modes_b1 a1 out) (((fun out => .ok out)) : _ → R (List Str))
    (fun j => fun out => fun (fr : Nat → AV) (h : AHeap) => ∃ (v : AV), ∃ (g1 : Nat), OwnV v (ix ids 0) g1 out.length ∧ fr = frA [(1, (.ptr (ix ids 1) g 0 0)), (3, v), (4, (.int .i64 (j : Int)))] ∧ h = hp h0 ids [(ownO v g1 1 (List.map rS out)), (some (.rows g 2 [(rAirport a)]))]) [] ?_ ?_ ?_
  · exact ⟨.emp, 0, .nil, rfl, rfl⟩
  · rintro j a1 ha1 W hW out fr h ⟨v, g1, vH, rfl, rfl⟩
    refine wr_mod (m' := ref09_modes_b1 a1 out) rfl (wr_mod (ref09_modes_b1.eq_1 _ _) ?_)
    refine wr_seq ?_
    refine wr_seq ?_
    refine wr_region ?_
    refine wo_val (.int .i64 (j : Int)) rfl pv_move ?_
    refine wo_val (.ptr (ix ids 1) g 0 1) rfl (pv_fa (fa_ptr (c := 0) (off := 1) (i := 1) ti46 rfl ti44 rfl)) ?_
    refine wo_val (.sl 2 (List.map rMode a.Modes)) rfl (pv_load (ld_ptr hI rfl rfl rfl ti44 rfl)) ?_
    refine wo_val (.int .i64 (a.Modes.length : Int)) rfl (pv_len (len_sl ti44)) ?_
    refine wo_val (.bool (decide ((j : Int) < (a.Modes.length : Int)))) rfl (pv_bin rfl rfl rfl) ?_
    refine wo_nil ?_
    refine wr_lim (t := 8) (L := a.Modes) rfl fun hlim1 => ?_
    refine wr_condT rfl (Int.ofNat_lt.2 (lt_of_get ha1)) ?_
    refine wr_skip ?_
    refine wr_seq ?_
    refine wr_block ?_
    refine wr_region ?_
    refine wo_val v rfl pv_move ?_
    refine wo_val (.ptr (ix ids 1) g 0 1) rfl (pv_fa (fa_ptr (c := 0) (off := 1) (i := 1) ti46 rfl ti44 rfl)) ?_
    refine wo_val (.sl 2 (List.map rMode a.Modes)) rfl (pv_load (ld_ptr hI rfl rfl rfl ti44 rfl)) ?_
    refine wo_val (.int .i64 (j : Int)) rfl pv_move ?_
    refine wo_val (.cp (rMode a1) 0) rfl (pv_ixa (ixa_nat ti44 ti66 rfl ha1)) ?_
    refine wo_val (.cp (rMode a1) 0) rfl (pv_fa (fa_cp (c := 0) (off := 0) (i := 0) ti66 rfl ti9 rfl)) ?_
    refine wo_val (.str a1.Name) rfl (pv_load (ld_cp ti9 rfl)) ?_
    refine wo_bsC (e := rS) (L := [a1.Name]) (st := 1) (rows := [[(.str a1.Name)]]) rfl ti38 ti9 rfl rfl rfl rfl rfl (.cons (RowSim.refl _) .nil) (fun x => ok_S x) rfl rfl ?_
    refine of_need fun hl => ?_
    refine wo_append (e := rS) (L := out) (L2 := [a1.Name]) (v := v) (g := g1) (st := 1) (j := 0) hI rfl rfl rfl rfl vH rfl (src_sl rfl) ti38 ti38 rfl ti9 rfl rfl rfl hl fun v1 g2 vH1 => ?_
    refine wo_val v1 rfl pv_assign ?_
    refine wo_nil ?_
    refine wr_hp [(ownO v1 g2 1 (List.map rS (out ++ [a1.Name]))), (some (.rows g 2 [(rAirport a)]))] rfl ?_
    refine wr_inBlock ?_
    refine wr_region ?_
    refine wo_val (.int .i64 (j : Int)) rfl pv_move ?_
    refine wo_val (.int .i64 (IntKind.wrap .i64 ((j : Int) + 1))) rfl (pv_bin rfl rfl rfl) ?_
    refine wo_val (.int .i64 (IntKind.wrap .i64 ((j : Int) + 1))) rfl pv_assign ?_
    refine wo_nil ?_
    refine wr_is [(1, (.ptr (ix ids 1) g 0 0)), (3, v1), (4, (.int .i64 ((j + 1 : Nat) : Int)))] (.cons rfl (.cons rfl (.cons (inc_ok (lt_of_get ha1) hlim1) .nil))) ?_
    refine wb_S ?_
    refine hW (out ++ [a1.Name]) _ _ ?_
    exact ⟨v1, g2, vH1, rfl, rfl⟩
  · rintro out fr h ⟨v, g1, vH, rfl, rfl⟩
    refine wr_seq ?_
    refine wr_seq ?_
    refine wr_region ?_
    refine wo_val (.int .i64 (a.Modes.length : Int)) rfl pv_move ?_
    refine wo_val (.ptr (ix ids 1) g 0 1) rfl (pv_fa (fa_ptr (c := 0) (off := 1) (i := 1) ti46 rfl ti44 rfl)) ?_
    refine wo_val (.sl 2 (List.map rMode a.Modes)) rfl (pv_load (ld_ptr hI rfl rfl rfl ti44 rfl)) ?_
    refine wo_val (.int .i64 (a.Modes.length : Int)) rfl (pv_len (len_sl ti44)) ?_
    refine wo_val (.bool (decide ((a.Modes.length : Int) < (a.Modes.length : Int)))) rfl (pv_bin rfl rfl rfl) ?_
    refine wo_nil ?_
    refine wr_condF rfl (Int.lt_irrefl _) ?_
    refine wr_exit rfl ?_
    refine wr_seq ?_
    refine wr_region ?_
    refine wo_val v rfl pv_move ?_
    refine wo_val v rfl pv_assign ?_
    refine wo_nil ?_
    exact wr_retO (a := out) (v := v) (g := g1) Try.func65 hI rfl rfl vH rfl
theorem cp_ref09_modes (a : Airport) : CP Try.prog 65 [(.agg (rAirport a))] (ref09_modes a) (fun (x : (List Str)) => (AV.sl 1 (List.map rS x))) := (cpo_ref09_modes a).cp (fun x => ok_S x)

theorem cp_ref09_Twice (a : Airspace) : CP Try.prog 47 [(.agg (rAirspace a))] (ref09_Twice a) (fun (x : Bool) => (AV.bool x)) := by
  refine cp_intro (n := 51) 1 Try.func47 rfl (by decide) rfl rfl fun h0 ids hI => ?_
  refine wr_in (wr_mod (ref09_Twice.eq_1 _) ?_)
  refine wr_seq ?_
  refine wr_region ?_
  refine wo_box (v := (.agg (rAirspace a))) (j := 0) hI rfl rfl rfl rfl rfl rfl rfl fun g => ?_
  refine wo_val (.bool false) rfl pv_assign ?_
  refine wo_nil ?_
  refine wr_hp [(some (.rows g 8 [(rAirspace a)]))] rfl ?_
  refine wr_seq ?_
  refine wr_seq ?_
  refine wr_region ?_
  refine wo_val (.agg (rAirspace a)) rfl (pv_load (ld_ptr hI rfl rfl rfl ti31 rfl)) ?_
  refine of_call [(.agg (rAirspace a))] rfl rfl rfl rfl ((cp_ref09_volumes a) _) (fun v _ => wu_pan Try.func47 hI) fun r _ => ?_
  refine of_call [(.sl 1 (List.map rS r))] rfl rfl rfl rfl ((cp_ref09_twice r) _) (fun v _ => wu_pan Try.func47 hI) fun r1 _ => ?_
  refine wo_val (.bool r1) rfl pv_move ?_
  refine wo_join 4 ((fun (b : Bool) => (if b then .ok true else (ref09_configs a).bind fun r4 =>
  (ref09_twice r4).bind fun r5 =>
  .ok r5).bind (fun (b1 : Bool) => (if b1 then .ok true else (ref09_segments a).bind fun r6 =>
  (ref09_twice r6).bind fun r7 =>
  .ok r7).bind (fun (b2 : Bool) => (if b2 then .ok true else (ref09_routes a).bind fun r8 =>
  (ref09_twice r8).bind fun r9 =>
  .ok r9).bind (fun (b3 : Bool) => (if b3 then .ok true else (ref09_airports a).bind fun r10 =>
  (ref09_twice r10).bind fun r11 =>
  .ok r11).bind (fun (b4 : Bool) => (if b4 then .ok true else (ref09_classes a).bind fun r12 =>
  (ref09_twice r12).bind fun r13 =>
  .ok r13).bind (fun (b5 : Bool) => if b5 then
(.ok true)
else
((each (fun _ a1 => fun _ => ref09_Twice_b1 a1) 0 a.Airports ()).bind (alt (fun _ => .ok false) (fun r => .ok r))))))))) : Bool → R Bool) (fun (b : Bool) (fr : Nat → AV) (h : AHeap) => fr = frA [(1, (.ptr (ix ids 0) g 0 0)), (11, (.bool b))] ∧ h = hp h0 ids [(some (.rows g 8 [(rAirspace a)]))]) ?_ fun hJ => of_if1 (fun hb1 => ?_) (fun hb1 => ?_)
  · rintro b fr h ⟨rfl, rfl⟩
    refine wo_val (.bool b) rfl pv_move ?_
    refine wo_join 4 ((fun (b1 : Bool) => (if b1 then .ok true else (ref09_segments a).bind fun r6 =>
  (ref09_twice r6).bind fun r7 =>
  .ok r7).bind (fun (b2 : Bool) => (if b2 then .ok true else (ref09_routes a).bind fun r8 =>
  (ref09_twice r8).bind fun r9 =>
  .ok r9).bind (fun (b3 : Bool) => (if b3 then .ok true else (ref09_airports a).bind fun r10 =>
  (ref09_twice r10).bind fun r11 =>
  .ok r11).bind (fun (b4 : Bool) => (if b4 then .ok true else (ref09_classes a).bind fun r12 =>
  (ref09_twice r12).bind fun r13 =>
  .ok r13).bind (fun (b5 : Bool) => if b5 then
(.ok true)
else
((each (fun _ a1 => fun _ => ref09_Twice_b1 a1) 0 a.Airports ()).bind (alt (fun _ => .ok false) (fun r => .ok r)))))))) : Bool → R Bool) (fun (b1 : Bool) (fr : Nat → AV) (h : AHeap) => fr = frA [(1, (.ptr (ix ids 0) g 0 0)), (16, (.bool b1))] ∧ h = hp h0 ids [(some (.rows g 8 [(rAirspace a)]))]) ?_ fun hJ1 => of_if1 (fun hb3 => ?_) (fun hb3 => ?_)
    · rintro b1 fr h ⟨rfl, rfl⟩
      refine wo_val (.bool b1) rfl pv_move ?_
      refine wo_join 4 ((fun (b2 : Bool) => (if b2 then .ok true else (ref09_routes a).bind fun r8 =>
  (ref09_twice r8).bind fun r9 =>
  .ok r9).bind (fun (b3 : Bool) => (if b3 then .ok true else (ref09_airports a).bind fun r10 =>
  (ref09_twice r10).bind fun r11 =>
  .ok r11).bind (fun (b4 : Bool) => (if b4 then .ok true else (ref09_classes a).bind fun r12 =>
  (ref09_twice r12).bind fun r13 =>
  .ok r13).bind (fun (b5 : Bool) => if b5 then
(.ok true)
else
((each (fun _ a1 => fun _ => ref09_Twice_b1 a1) 0 a.Airports ()).bind (alt (fun _ => .ok false) (fun r => .ok r))))))) : Bool → R Bool) (fun (b2 : Bool) (fr : Nat → AV) (h : AHeap) => fr = frA [(1, (.ptr (ix ids 0) g 0 0)), (21, (.bool b2))] ∧ h = hp h0 ids [(some (.rows g 8 [(rAirspace a)]))]) ?_ fun hJ2 => of_if1 (fun hb5 => ?_) (fun hb5 => ?_)
      · rintro b2 fr h ⟨rfl, rfl⟩
        refine wo_val (.bool b2) rfl pv_move ?_
        refine wo_join 4 ((fun (b3 : Bool) => (if b3 then .ok true else (ref09_airports a).bind fun r10 =>
  (ref09_twice r10).bind fun r11 =>
  .ok r11).bind (fun (b4 : Bool) => (if b4 then .ok true else (ref09_classes a).bind fun r12 =>
  (ref09_twice r12).bind fun r13 =>
  .ok r13).bind (fun (b5 : Bool) => if b5 then
(.ok true)
else
((each (fun _ a1 => fun _ => ref09_Twice_b1 a1) 0 a.Airports ()).bind (alt (fun _ => .ok false) (fun r => .ok r)))))) : Bool → R Bool) (fun (b3 : Bool) (fr : Nat → AV) (h : AHeap) => fr = frA [(1, (.ptr (ix ids 0) g 0 0)), (26, (.bool b3))] ∧ h = hp h0 ids [(some (.rows g 8 [(rAirspace a)]))]) ?_ fun hJ3 => of_if1 (fun hb7 => ?_) (fun hb7 => ?_)
        · rintro b3 fr h ⟨rfl, rfl⟩
          refine wo_val (.bool b3) rfl pv_move ?_
          refine wo_join 4 ((fun (b4 : Bool) => (if b4 then .ok true else (ref09_classes a).bind fun r12 =>
  (ref09_twice r12).bind fun r13 =>
  .ok r13).bind (fun (b5 : Bool) => if b5 then
(.ok true)
else
((each (fun _ a1 => fun _ => ref09_Twice_b1 a1) 0 a.Airports ()).bind (alt (fun _ => .ok false) (fun r => .ok r))))) : Bool → R Bool) (fun (b4 : Bool) (fr : Nat → AV) (h : AHeap) => fr = frA [(1, (.ptr (ix ids 0) g 0 0)), (31, (.bool b4))] ∧ h = hp h0 ids [(some (.rows g 8 [(rAirspace a)]))]) ?_ fun hJ4 => of_if1 (fun hb9 => ?_) (fun hb9 => ?_)
          · rintro b4 fr h ⟨rfl, rfl⟩
            refine wo_val (.bool b4) rfl pv_move ?_
            refine wo_join 4 ((fun (b5 : Bool) => if b5 then
(.ok true)
else
((each (fun _ a1 => fun _ => ref09_Twice_b1 a1) 0 a.Airports ()).bind (alt (fun _ => .ok false) (fun r => .ok r)))) : Bool → R Bool) (fun (b5 : Bool) (fr : Nat → AV) (h : AHeap) => fr = frA [(1, (.ptr (ix ids 0) g 0 0)), (36, (.bool b5))] ∧ h = hp h0 ids [(some (.rows g 8 [(rAirspace a)]))]) ?_ fun hJ5 => of_if1 (fun hb11 => ?_) (fun hb11 => ?_)
            · rintro b5 fr h ⟨rfl, rfl⟩
              refine wo_nil ?_
              refine wf_iteb rfl (fun hc => ?_) (fun hc => ?_)
              · refine wr_seq ?_
                refine wr_region ?_
                refine wo_val (.bool true) rfl pv_assign ?_
                refine wo_nil ?_
                exact wr_ret (a := true) (vs := [(.bool true)]) Try.func47 hI rfl (.same _)
              · refine wr_skip ?_
                refine wr_seq ?_
                refine wr_seq ?_
                refine wr_region ?_
                refine wo_val (.int .i64 0) rfl pv_assign ?_
                refine wo_nil ?_
                refine wr_block ?_
                refine wr_is [(1, (.ptr (ix ids 0) g 0 0)), (3, (.int .i64 0))] (.cons rfl (.cons rfl .nil)) ?_
                refine wf_each' a.Airports (fun _ a1 => fun _ => ref09_Twice_b1 a1) ((alt (fun _ => .ok false) (fun r => .ok r)) : _ → R Bool)
                  (fun j => fun _ => fun (fr : Nat → AV) (h : AHeap) => fr = frA [(1, (.ptr (ix ids 0) g 0 0)), (3, (.int .i64 (j : Int)))] ∧ h = hp h0 ids [(some (.rows g 8 [(rAirspace a)]))]) () ?_ ?_ ?_
                · exact ⟨rfl, rfl⟩
                · rintro j a1 ha1 W hW _ fr h ⟨rfl, rfl⟩
                  refine wr_mod (m' := ref09_Twice_b1 a1) rfl (wr_mod (ref09_Twice_b1.eq_1 _) ?_)
                  refine wr_seq ?_
                  refine wr_seq ?_
                  refine wr_region ?_
                  refine wo_val (.int .i64 (j : Int)) rfl pv_move ?_
                  refine wo_val (.ptr (ix ids 0) g 0 5) rfl (pv_fa (fa_ptr (c := 0) (off := 5) (i := 5) ti31 rfl ti27 rfl)) ?_
                  refine wo_val (.sl 2 (List.map rAirport a.Airports)) rfl (pv_load (ld_ptr hI rfl rfl rfl ti27 rfl)) ?_
                  refine wo_val (.int .i64 (a.Airports.length : Int)) rfl (pv_len (len_sl ti27)) ?_
                  refine wo_val (.bool (decide ((j : Int) < (a.Airports.length : Int)))) rfl (pv_bin rfl rfl rfl) ?_
                  refine wo_nil ?_
                  refine wr_lim (t := 39) (L := a.Airports) rfl fun hlim1 => ?_
                  refine wr_condT rfl (Int.ofNat_lt.2 (lt_of_get ha1)) ?_
                  refine wr_skip ?_
                  refine wr_seq ?_
                  refine wr_block ?_
                  refine wr_seq ?_
                  refine wr_region ?_
                  refine wo_val (.ptr (ix ids 0) g 0 5) rfl (pv_fa (fa_ptr (c := 0) (off := 5) (i := 5) ti31 rfl ti27 rfl)) ?_
                  refine wo_val (.sl 2 (List.map rAirport a.Airports)) rfl (pv_load (ld_ptr hI rfl rfl rfl ti27 rfl)) ?_
                  refine wo_val (.int .i64 (j : Int)) rfl pv_move ?_
                  refine wo_val (.cp (rAirport a1) 0) rfl (pv_ixa (ixa_nat ti27 ti46 rfl ha1)) ?_
                  refine wo_val (.agg (rAirport a1)) rfl (pv_load (ld_cp ti46 rfl)) ?_
                  refine of_call [(.agg (rAirport a1))] rfl rfl rfl rfl ((cp_ref09_modes a1) _) (fun v _ => wu_pan Try.func47 hI) fun r14 _ => ?_
                  refine of_call [(.sl 1 (List.map rS r14))] rfl rfl rfl rfl ((cp_ref09_twice r14) _) (fun v _ => wu_pan Try.func47 hI) fun r15 _ => ?_
                  refine wo_nil ?_
                  refine wf_iteb rfl (fun hc1 => ?_) (fun hc1 => ?_)
                  · refine wr_seq ?_
                    refine wr_region ?_
                    refine wo_val (.bool true) rfl pv_assign ?_
                    refine wo_nil ?_
                    refine wx_each ?_
                    refine w_altr ?_
                    exact wr_ret (a := true) (vs := [(.bool true)]) Try.func47 hI rfl (.same _)
                  · refine wr_skip ?_
                    refine wr_inBlock ?_
                    refine wr_region ?_
                    refine wo_val (.int .i64 (j : Int)) rfl pv_move ?_
                    refine wo_val (.int .i64 (IntKind.wrap .i64 ((j : Int) + 1))) rfl (pv_bin rfl rfl rfl) ?_
                    refine wo_val (.int .i64 (IntKind.wrap .i64 ((j : Int) + 1))) rfl pv_assign ?_
                    refine wo_nil ?_
                    refine wr_is [(1, (.ptr (ix ids 0) g 0 0)), (3, (.int .i64 ((j + 1 : Nat) : Int)))] (.cons rfl (.cons (inc_ok (lt_of_get ha1) hlim1) .nil)) ?_
                    refine wb_each ?_
                    refine hW () _ _ ?_
                    exact ⟨rfl, rfl⟩
                · rintro _ fr h ⟨rfl, rfl⟩
                  refine wr_mod (alt_inl _ _ _) ?_
                  refine wr_seq ?_
                  refine wr_seq ?_
                  refine wr_region ?_
                  refine wo_val (.int .i64 (a.Airports.length : Int)) rfl pv_move ?_
                  refine wo_val (.ptr (ix ids 0) g 0 5) rfl (pv_fa (fa_ptr (c := 0) (off := 5) (i := 5) ti31 rfl ti27 rfl)) ?_
                  refine wo_val (.sl 2 (List.map rAirport a.Airports)) rfl (pv_load (ld_ptr hI rfl rfl rfl ti27 rfl)) ?_
                  refine wo_val (.int .i64 (a.Airports.length : Int)) rfl (pv_len (len_sl ti27)) ?_
                  refine wo_val (.bool (decide ((a.Airports.length : Int) < (a.Airports.length : Int)))) rfl (pv_bin rfl rfl rfl) ?_
                  refine wo_nil ?_
                  refine wr_condF rfl (Int.lt_irrefl _) ?_
                  refine wr_exit rfl ?_
                  refine wr_seq ?_
                  refine wr_region ?_
                  refine wo_val (.bool false) rfl pv_assign ?_
                  refine wo_nil ?_
                  exact wr_ret (a := false) (vs := [(.bool false)]) Try.func47 hI rfl (.same _)
            · refine wo_not (tj := 32) (b := true) rfl (congrArg AV.bool hb11) rfl rfl ?_
              refine wo_not (tj := 32) (b := true) rfl (congrArg AV.bool hb11) rfl rfl ?_
              refine wo_not (tj := 32) (b := true) rfl (congrArg AV.bool hb11) rfl rfl ?_
              refine wo_val (.bool true) rfl (pv_pick (t := true) (congrArg AV.bool hb11) rfl) ?_
              refine wo_back1 ?_
              refine wo_is [(1, (.ptr (ix ids 0) g 0 0)), (36, (.bool true))] (.cons rfl (.cons rfl .nil)) ?_
              exact hJ5 true _ _ ⟨rfl, rfl⟩
            · refine wo_valg (tj := 32) (.agg (rAirspace a)) rfl (congrArg AV.bool hb11) rfl (pv_load (ld_ptr hI rfl rfl rfl ti31 rfl)) ?_
              refine of_call [(.agg (rAirspace a))] rfl (wanted_yes (tj := 32) rfl (congrArg AV.bool hb11)) rfl rfl ((cp_ref09_classes a) _) (fun v _ => wu_pan Try.func47 hI) fun r12 _ => ?_
              refine of_call [(.sl 1 (List.map rS r12))] rfl (wanted_yes (tj := 32) rfl (congrArg AV.bool hb11)) rfl rfl ((cp_ref09_twice r12) _) (fun v _ => wu_pan Try.func47 hI) fun r13 _ => ?_
              refine wo_val (.bool r13) rfl (pv_pick (t := false) (congrArg AV.bool hb11) rfl) ?_
              refine wo_back1 ?_
              refine wo_is [(1, (.ptr (ix ids 0) g 0 0)), (36, (.bool r13))] (.cons rfl (.cons rfl .nil)) ?_
              exact hJ5 r13 _ _ ⟨rfl, rfl⟩
          · refine wo_not (tj := 27) (b := true) rfl (congrArg AV.bool hb9) rfl rfl ?_
            refine wo_not (tj := 27) (b := true) rfl (congrArg AV.bool hb9) rfl rfl ?_
            refine wo_not (tj := 27) (b := true) rfl (congrArg AV.bool hb9) rfl rfl ?_
            refine wo_val (.bool true) rfl (pv_pick (t := true) (congrArg AV.bool hb9) rfl) ?_
            refine wo_back1 ?_
            refine wo_is [(1, (.ptr (ix ids 0) g 0 0)), (31, (.bool true))] (.cons rfl (.cons rfl .nil)) ?_
            exact hJ4 true _ _ ⟨rfl, rfl⟩
          · refine wo_valg (tj := 27) (.agg (rAirspace a)) rfl (congrArg AV.bool hb9) rfl (pv_load (ld_ptr hI rfl rfl rfl ti31 rfl)) ?_
            refine of_call [(.agg (rAirspace a))] rfl (wanted_yes (tj := 27) rfl (congrArg AV.bool hb9)) rfl rfl ((cp_ref09_airports a) _) (fun v _ => wu_pan Try.func47 hI) fun r10 _ => ?_
            refine of_call [(.sl 1 (List.map rS r10))] rfl (wanted_yes (tj := 27) rfl (congrArg AV.bool hb9)) rfl rfl ((cp_ref09_twice r10) _) (fun v _ => wu_pan Try.func47 hI) fun r11 _ => ?_
            refine wo_val (.bool r11) rfl (pv_pick (t := false) (congrArg AV.bool hb9) rfl) ?_
            refine wo_back1 ?_
            refine wo_is [(1, (.ptr (ix ids 0) g 0 0)), (31, (.bool r11))] (.cons rfl (.cons rfl .nil)) ?_
            exact hJ4 r11 _ _ ⟨rfl, rfl⟩
        · refine wo_not (tj := 22) (b := true) rfl (congrArg AV.bool hb7) rfl rfl ?_
          refine wo_not (tj := 22) (b := true) rfl (congrArg AV.bool hb7) rfl rfl ?_
          refine wo_not (tj := 22) (b := true) rfl (congrArg AV.bool hb7) rfl rfl ?_
          refine wo_val (.bool true) rfl (pv_pick (t := true) (congrArg AV.bool hb7) rfl) ?_
          refine wo_back1 ?_
          refine wo_is [(1, (.ptr (ix ids 0) g 0 0)), (26, (.bool true))] (.cons rfl (.cons rfl .nil)) ?_
          exact hJ3 true _ _ ⟨rfl, rfl⟩
        · refine wo_valg (tj := 22) (.agg (rAirspace a)) rfl (congrArg AV.bool hb7) rfl (pv_load (ld_ptr hI rfl rfl rfl ti31 rfl)) ?_
          refine of_call [(.agg (rAirspace a))] rfl (wanted_yes (tj := 22) rfl (congrArg AV.bool hb7)) rfl rfl ((cp_ref09_routes a) _) (fun v _ => wu_pan Try.func47 hI) fun r8 _ => ?_
          refine of_call [(.sl 1 (List.map rS r8))] rfl (wanted_yes (tj := 22) rfl (congrArg AV.bool hb7)) rfl rfl ((cp_ref09_twice r8) _) (fun v _ => wu_pan Try.func47 hI) fun r9 _ => ?_
          refine wo_val (.bool r9) rfl (pv_pick (t := false) (congrArg AV.bool hb7) rfl) ?_
          refine wo_back1 ?_
          refine wo_is [(1, (.ptr (ix ids 0) g 0 0)), (26, (.bool r9))] (.cons rfl (.cons rfl .nil)) ?_
          exact hJ3 r9 _ _ ⟨rfl, rfl⟩
      · refine wo_not (tj := 17) (b := true) rfl (congrArg AV.bool hb5) rfl rfl ?_
        refine wo_not (tj := 17) (b := true) rfl (congrArg AV.bool hb5) rfl rfl ?_
        refine wo_not (tj := 17) (b := true) rfl (congrArg AV.bool hb5) rfl rfl ?_
        refine wo_val (.bool true) rfl (pv_pick (t := true) (congrArg AV.bool hb5) rfl) ?_
        refine wo_back1 ?_
        refine wo_is [(1, (.ptr (ix ids 0) g 0 0)), (21, (.bool true))] (.cons rfl (.cons rfl .nil)) ?_
        exact hJ2 true _ _ ⟨rfl, rfl⟩
      · refine wo_valg (tj := 17) (.agg (rAirspace a)) rfl (congrArg AV.bool hb5) rfl (pv_load (ld_ptr hI rfl rfl rfl ti31 rfl)) ?_
        refine of_call [(.agg (rAirspace a))] rfl (wanted_yes (tj := 17) rfl (congrArg AV.bool hb5)) rfl rfl ((cp_ref09_segments a) _) (fun v _ => wu_pan Try.func47 hI) fun r6 _ => ?_
        refine of_call [(.sl 1 (List.map rS r6))] rfl (wanted_yes (tj := 17) rfl (congrArg AV.bool hb5)) rfl rfl ((cp_ref09_twice r6) _) (fun v _ => wu_pan Try.func47 hI) fun r7 _ => ?_
        refine wo_val (.bool r7) rfl (pv_pick (t := false) (congrArg AV.bool hb5) rfl) ?_
        refine wo_back1 ?_
        refine wo_is [(1, (.ptr (ix ids 0) g 0 0)), (21, (.bool r7))] (.cons rfl (.cons rfl .nil)) ?_
        exact hJ2 r7 _ _ ⟨rfl, rfl⟩
    · refine wo_not (tj := 12) (b := true) rfl (congrArg AV.bool hb3) rfl rfl ?_
      refine wo_not (tj := 12) (b := true) rfl (congrArg AV.bool hb3) rfl rfl ?_
      refine wo_not (tj := 12) (b := true) rfl (congrArg AV.bool hb3) rfl rfl ?_
      refine wo_val (.bool true) rfl (pv_pick (t := true) (congrArg AV.bool hb3) rfl) ?_
      refine wo_back1 ?_
      refine wo_is [(1, (.ptr (ix ids 0) g 0 0)), (16, (.bool true))] (.cons rfl (.cons rfl .nil)) ?_
      exact hJ1 true _ _ ⟨rfl, rfl⟩
    · refine wo_valg (tj := 12) (.agg (rAirspace a)) rfl (congrArg AV.bool hb3) rfl (pv_load (ld_ptr hI rfl rfl rfl ti31 rfl)) ?_
      refine of_call [(.agg (rAirspace a))] rfl (wanted_yes (tj := 12) rfl (congrArg AV.bool hb3)) rfl rfl ((cp_ref09_configs a) _) (fun v _ => wu_pan Try.func47 hI) fun r4 _ => ?_
      refine of_call [(.sl 1 (List.map rS r4))] rfl (wanted_yes (tj := 12) rfl (congrArg AV.bool hb3)) rfl rfl ((cp_ref09_twice r4) _) (fun v _ => wu_pan Try.func47 hI) fun r5 _ => ?_
      refine wo_val (.bool r5) rfl (pv_pick (t := false) (congrArg AV.bool hb3) rfl) ?_
      refine wo_back1 ?_
      refine wo_is [(1, (.ptr (ix ids 0) g 0 0)), (16, (.bool r5))] (.cons rfl (.cons rfl .nil)) ?_
      exact hJ1 r5 _ _ ⟨rfl, rfl⟩
  · refine wo_not (tj := 7) (b := true) rfl (congrArg AV.bool hb1) rfl rfl ?_
    refine wo_not (tj := 7) (b := true) rfl (congrArg AV.bool hb1) rfl rfl ?_
    refine wo_not (tj := 7) (b := true) rfl (congrArg AV.bool hb1) rfl rfl ?_
    refine wo_val (.bool true) rfl (pv_pick (t := true) (congrArg AV.bool hb1) rfl) ?_
    refine wo_back1 ?_
    refine wo_is [(1, (.ptr (ix ids 0) g 0 0)), (11, (.bool true))] (.cons rfl (.cons rfl .nil)) ?_
    exact hJ true _ _ ⟨rfl, rfl⟩
  · refine wo_valg (tj := 7) (.agg (rAirspace a)) rfl (congrArg AV.bool hb1) rfl (pv_load (ld_ptr hI rfl rfl rfl ti31 rfl)) ?_
    refine of_call [(.agg (rAirspace a))] rfl (wanted_yes (tj := 7) rfl (congrArg AV.bool hb1)) rfl rfl ((cp_ref09_sectors a) _) (fun v _ => wu_pan Try.func47 hI) fun r2 _ => ?_
    refine of_call [(.sl 1 (List.map rS r2))] rfl (wanted_yes (tj := 7) rfl (congrArg AV.bool hb1)) rfl rfl ((cp_ref09_twice r2) _) (fun v _ => wu_pan Try.func47 hI) fun r3 _ => ?_
    refine wo_val (.bool r3) rfl (pv_pick (t := false) (congrArg AV.bool hb1) rfl) ?_
    refine wo_back1 ?_
    refine wo_is [(1, (.ptr (ix ids 0) g 0 0)), (11, (.bool r3))] (.cons rfl (.cons rfl .nil)) ?_
    exact hJ r3 _ _ ⟨rfl, rfl⟩

theorem cp_ref09_numbers (l : (List Str)) (names : (List Str)) : CP Try.prog 53 [(.sl 1 (List.map rS l)), (.sl 1 (List.map rS names))] (ref09_numbers l names) (fun (p : ((List Int) × Bool)) => AV.tup [(.sl 1 (List.map (rI .i64) p.1)), (.bool p.2)]) := by
  refine cp_intro (n := 34) 1 Try.func53 rfl (by decide) rfl rfl fun h0 ids hI => ?_
  refine wr_in (wr_mod (ref09_numbers.eq_1 _ _) ?_)
  refine wr_seq ?_
  refine wr_region ?_
  refine wo_val .emp rfl pv_assign ?_
  refine wo_val (.bool false) rfl pv_assign ?_
  refine wo_nil ?_
  refine wr_seq ?_
  refine wr_region ?_
  refine wo_bs0 rfl ti51 ti3 ?_
  refine wo_val .emp rfl pv_assign ?_
  refine wo_nil ?_
  refine wr_seq ?_
  refine wr_region ?_
  refine wo_val (.bool true) rfl pv_assign ?_
  refine wo_nil ?_
  refine wr_seq ?_
  refine wr_seq ?_
  refine wr_region ?_
  refine wo_val (.int .i64 0) rfl pv_assign ?_
  refine wo_nil ?_
  refine wr_block ?_
  refine wr_is [(0, (.sl 1 (List.map rS l))), (1, (.sl 1 (List.map rS names))), (6, .emp), (7, (.bool true)), (8, (.int .i64 0))] (.cons rfl (.cons rfl (.cons rfl (.cons rfl (.cons rfl .nil))))) ?_
  refine wf_eachS' names (fun _ a => un2 fun ok out => ref09_numbers_b1 l a ok out) (((un2 fun ok out => .ok (out, ok))) : _ → R ((List Int) × Bool))
    (fun j => un2 fun ok out => fun (fr : Nat → AV) (h : AHeap) => ∃ (v : AV), ∃ (g : Nat), OwnV v (ix ids 0) g out.length ∧ fr = frA [(0, (.sl 1 (List.map rS l))), (1, (.sl 1 (List.map rS names))), (6, v), (7, (.bool ok)), (8, (.int .i64 (j : Int)))] ∧ h = hp h0 ids [(ownO v g 1 (List.map (rI .i64) out))]) (true, []) ?_ ?_ ?_
  · exact ⟨.emp, 0, .nil, rfl, rfl⟩
  · rintro j a ha W hW ⟨ok, out⟩ fr h ⟨v, g, vH, rfl, rfl⟩
    refine wr_mod (m' := ref09_numbers_b1 l a ok out) rfl (wr_mod (ref09_numbers_b1.eq_1 _ _ _ _) ?_)
    refine wr_seq ?_
    refine wr_seq ?_
    refine wr_region ?_
    refine wo_val (.int .i64 (j : Int)) rfl pv_move ?_
    refine wo_val (.sl 1 (List.map rS names)) rfl pv_move ?_
    refine wo_val (.int .i64 (names.length : Int)) rfl (pv_len (len_sl ti38)) ?_
    refine wo_val (.bool (decide ((j : Int) < (names.length : Int)))) rfl (pv_bin rfl rfl rfl) ?_
    refine wo_nil ?_
    refine wr_lim (t := 1) (L := names) rfl fun hlim => ?_
    refine wr_condT rfl (Int.ofNat_lt.2 (lt_of_get ha)) ?_
    refine wr_skip ?_
    refine wr_seq ?_
    refine wr_block ?_
    refine wr_seq ?_
    refine wr_region ?_
    refine wo_val (.sl 1 (List.map rS l)) rfl pv_move ?_
    refine wo_val (.sl 1 (List.map rS names)) rfl pv_move ?_
    refine wo_val (.int .i64 (j : Int)) rfl pv_move ?_
    refine wo_val (.cp [(.str a)] 0) rfl (pv_ixa (ixa_nat ti38 ti9 rfl ha)) ?_
    refine wo_val (.str a) rfl (pv_load (ld_cp ti9 rfl)) ?_
    refine of_call [(.sl 1 (List.map rS l)), (.str a)] rfl rfl rfl rfl ((cp_ref09_find l a) _) (fun v _ => wu_pan Try.func53 hI) fun n _ => ?_
    refine wo_val (.int .i64 n) rfl pv_assign ?_
    refine wo_nil ?_
    refine wr_seq ?_
    refine wr_region ?_
    refine wo_val (.bool ok) rfl pv_move ?_
    refine wo_val (.bool ok) rfl pv_move ?_
    refine wo_meet 3 [(0, (.sl 1 (List.map rS l))), (1, (.sl 1 (List.map rS names))), (6, v), (8, (.int .i64 (j : Int))), (9, (.int .i64 n)), (27, (.bool (ok && (decide (n ≥ 0)))))] ?_ fun hJ => wo_cases ok (fun hb1 => ?_) (fun hb1 => ?_)
    · refine wo_val (.bool (ok && (decide (n ≥ 0)))) rfl pv_assign ?_
      refine wo_nil ?_
      refine wr_region ?_
      refine wo_val v rfl pv_move ?_
      refine wo_val (.int .i64 n) rfl pv_move ?_
      refine wo_bsC (e := (rI .i64)) (L := [n]) (st := 1) (rows := [[(.int .i64 n)]]) rfl ti51 ti3 rfl rfl rfl rfl rfl (.cons (RowSim.refl _) .nil) (fun x => ok_I x) rfl rfl ?_
      refine of_need fun hl => ?_
      refine wo_append (e := (rI .i64)) (L := out) (L2 := [n]) (v := v) (g := g) (st := 1) (j := 0) hI rfl rfl rfl rfl vH rfl (src_sl rfl) ti51 ti51 rfl ti3 rfl rfl rfl hl fun v1 g1 vH1 => ?_
      refine wo_val v1 rfl pv_assign ?_
      refine wo_nil ?_
      refine wr_hp [(ownO v1 g1 1 (List.map (rI .i64) (out ++ [n])))] rfl ?_
      refine wr_inBlock ?_
      refine wr_region ?_
      refine wo_val (.int .i64 (j : Int)) rfl pv_move ?_
      refine wo_val (.int .i64 (IntKind.wrap .i64 ((j : Int) + 1))) rfl (pv_bin rfl rfl rfl) ?_
      refine wo_val (.int .i64 (IntKind.wrap .i64 ((j : Int) + 1))) rfl pv_assign ?_
      refine wo_nil ?_
      refine wr_is [(0, (.sl 1 (List.map rS l))), (1, (.sl 1 (List.map rS names))), (6, v1), (7, (.bool (ok && (decide (n ≥ 0))))), (8, (.int .i64 ((j + 1 : Nat) : Int)))] (.cons rfl (.cons rfl (.cons rfl (.cons rfl (.cons (inc_ok (lt_of_get ha) hlim) .nil))))) ?_
      refine wb_S ?_
      refine hW ((ok && (decide (n ≥ 0))), (out ++ [n])) _ _ ?_
      exact ⟨v1, g1, vH1, rfl, rfl⟩
    · refine wo_valg (tj := 24) (.int .i64 n) rfl (congrArg AV.bool hb1) rfl pv_move ?_
      refine wo_valg (tj := 24) (.bool (decide (n ≥ 0))) rfl (congrArg AV.bool hb1) rfl (pv_bin rfl rfl rfl) ?_
      refine wo_val (.bool (decide (n ≥ 0))) rfl (pv_pick (t := true) (congrArg AV.bool hb1) rfl) ?_
      exact wo_is [(0, (.sl 1 (List.map rS l))), (1, (.sl 1 (List.map rS names))), (6, v), (8, (.int .i64 (j : Int))), (9, (.int .i64 n)), (27, (.bool (ok && (decide (n ≥ 0)))))] (.cons rfl (.cons rfl (.cons rfl (.cons rfl (.cons rfl (.cons (and_t hb1) .nil)))))) hJ
    · refine wo_not (tj := 24) (b := false) rfl (congrArg AV.bool hb1) rfl rfl ?_
      refine wo_not (tj := 24) (b := false) rfl (congrArg AV.bool hb1) rfl rfl ?_
      refine wo_val (.bool false) rfl (pv_pick (t := false) (congrArg AV.bool hb1) rfl) ?_
      exact wo_is [(0, (.sl 1 (List.map rS l))), (1, (.sl 1 (List.map rS names))), (6, v), (8, (.int .i64 (j : Int))), (9, (.int .i64 n)), (27, (.bool (ok && (decide (n ≥ 0)))))] (.cons rfl (.cons rfl (.cons rfl (.cons rfl (.cons rfl (.cons (and_f hb1) .nil)))))) hJ
  · rintro ⟨ok, out⟩ fr h ⟨v, g, vH, rfl, rfl⟩
    refine wr_mod (un2_mk _ _ _) ?_
    refine wr_seq ?_
    refine wr_seq ?_
    refine wr_region ?_
    refine wo_val (.int .i64 (names.length : Int)) rfl pv_move ?_
    refine wo_val (.sl 1 (List.map rS names)) rfl pv_move ?_
    refine wo_val (.int .i64 (names.length : Int)) rfl (pv_len (len_sl ti38)) ?_
    refine wo_val (.bool (decide ((names.length : Int) < (names.length : Int)))) rfl (pv_bin rfl rfl rfl) ?_
    refine wo_nil ?_
    refine wr_condF rfl (Int.lt_irrefl _) ?_
    refine wr_exit rfl ?_
    refine wr_seq ?_
    refine wr_region ?_
    refine wo_val v rfl pv_move ?_
    refine wo_val (.bool ok) rfl pv_move ?_
    refine wo_val v rfl pv_assign ?_
    refine wo_val (.bool ok) rfl pv_assign ?_
    refine wo_nil ?_
    exact wr_ret (a := (out, ok)) (vs := [v, (.bool ok)]) Try.func53 hI rfl (.tupL (.cons (own_fz vH (hI.at rfl rfl) (hI.out rfl) (fun x => ok_I x)) (.cons (.same _) .nil)))

theorem cp_ref09_Resolve (a : Airspace) : CP Try.prog 13 [(.agg (rAirspace a))] (ref09_Resolve a) (fun (p : (Airspace × Int)) => AV.tup [(.agg (rAirspace p.1)), (.int .i64 p.2)]) := by
  refine cp_intro (n := 292) 8 Try.func13 rfl (by decide) rfl rfl fun h0 ids hI => ?_
  refine wr_in (wr_mod (ref09_Resolve.eq_1 _) ?_)
  refine wr_seq ?_
  refine wr_region ?_
  refine wo_box (v := (.agg (rAirspace a))) (j := 0) hI rfl rfl rfl rfl rfl rfl rfl fun g => ?_
  refine wo_alloc (j := 1) hI rfl rfl rfl rfl ti31 rfl fun g1 => ?_
  refine wo_val (.int .i64 0) rfl pv_assign ?_
  refine wo_nil ?_
  refine wr_hp [(some (.rows g 8 [(rAirspace a)])), (some (.rows g1 8 [[.emp, .emp, .emp, .emp, .emp, .emp, .emp, .emp]])), none, none, none, none, none, none] rfl ?_
  refine wr_seq ?_
  refine wr_seq ?_
  refine wr_region ?_
  refine wo_val (.agg (rAirspace a)) rfl (pv_load (ld_ptr hI rfl rfl rfl ti31 rfl)) ?_
  refine of_call [(.agg (rAirspace a))] rfl rfl rfl rfl ((cp_ref09_Twice a) _) (fun v _ => wu_pan Try.func13 hI) fun r _ => ?_
  refine wo_nil ?_
  refine wf_iteb rfl (fun hc => ?_) (fun hc => ?_)
  · refine wr_seq ?_
    refine wr_region ?_
    refine wo_val (.agg [.emp, .emp, .emp, .emp, .emp, .emp, .emp, .emp]) rfl (pv_build (bd_st ti31 pl31 rfl)) ?_
    refine wo_store (st_ptr hI rfl rfl rfl rfl ti31 rfl rfl rfl rfl rfl) ?_
    refine wo_val (.int .i64 91) rfl pv_assign ?_
    refine wo_nil ?_
    exact wr_ret (a := (({ Volumes := [], Sectors := [], Configs := [], Segments := [], Routes := [], Airports := [], Classes := [], Rules := [] } : Airspace), 91)) (vs := [(.agg [.emp, .emp, .emp, .emp, .emp, .emp, .emp, .emp]), (.int .i64 91)]) Try.func13 hI (ares_cell (ld_ptr hI rfl rfl rfl ti31 rfl) (ares_tmp ares_nil)) (.tupL (.cons (.aggL (.cons (.emp _) (.cons (.emp _) (.cons (.emp _) (.cons (.emp _) (.cons (.emp _) (.cons (.emp _) (.cons (.emp _) (.cons (.emp _) .nil))))))))) (.cons (.same _) .nil)))
  · refine wr_skip ?_
    refine wr_seq ?_
    refine wr_region ?_
    refine wo_val (.agg (rAirspace a)) rfl (pv_load (ld_ptr hI rfl rfl rfl ti31 rfl)) ?_
    refine of_call [(.agg (rAirspace a))] rfl rfl rfl rfl ((cp_ref09_volumes a) _) (fun v _ => wu_pan Try.func13 hI) fun r1 _ => ?_
    refine wo_val (.sl 1 (List.map rS r1)) rfl pv_assign ?_
    refine wo_nil ?_
    refine wr_seq ?_
    refine wr_region ?_
    refine wo_val (.agg (rAirspace a)) rfl (pv_load (ld_ptr hI rfl rfl rfl ti31 rfl)) ?_
    refine of_call [(.agg (rAirspace a))] rfl rfl rfl rfl ((cp_ref09_sectors a) _) (fun v _ => wu_pan Try.func13 hI) fun r2 _ => ?_
    refine wo_val (.sl 1 (List.map rS r2)) rfl pv_assign ?_
    refine wo_nil ?_
    refine wr_seq ?_
    refine wr_region ?_
    refine wo_val (.agg (rAirspace a)) rfl (pv_load (ld_ptr hI rfl rfl rfl ti31 rfl)) ?_
    refine of_call [(.agg (rAirspace a))] rfl rfl rfl rfl ((cp_ref09_segments a) _) (fun v _ => wu_pan Try.func13 hI) fun r3 _ => ?_
    refine wo_val (.sl 1 (List.map rS r3)) rfl pv_assign ?_
    refine wo_nil ?_
    refine wr_seq ?_
    refine wr_region ?_
    refine wo_val (.agg (rAirspace a)) rfl (pv_load (ld_ptr hI rfl rfl rfl ti31 rfl)) ?_
    refine of_call [(.agg (rAirspace a))] rfl rfl rfl rfl ((cp_ref09_airports a) _) (fun v _ => wu_pan Try.func13 hI) fun r4 _ => ?_
    refine wo_val (.sl 1 (List.map rS r4)) rfl pv_assign ?_
    refine wo_nil ?_
    refine wr_seq ?_
    refine wr_region ?_
    refine wo_val (.agg (rAirspace a)) rfl (pv_load (ld_ptr hI rfl rfl rfl ti31 rfl)) ?_
    refine of_call [(.agg (rAirspace a))] rfl rfl rfl rfl ((cp_ref09_classes a) _) (fun v _ => wu_pan Try.func13 hI) fun r5 _ => ?_
    refine wo_val (.sl 1 (List.map rS r5)) rfl pv_assign ?_
    refine wo_nil ?_
    refine wr_seq ?_
    refine wr_region ?_
    refine wo_val (.bool true) rfl pv_assign ?_
    refine wo_nil ?_
    refine wr_seq ?_
    refine wr_region ?_
    refine wo_val (.agg (rAirspace a)) rfl (pv_load (ld_ptr hI rfl rfl rfl ti31 rfl)) ?_
    refine wo_alloc (j := 2) hI rfl rfl rfl rfl ti31 rfl fun g2 => ?_
    refine wo_store (st_ptr hI rfl rfl rfl rfl ti31 rfl rfl rfl rfl rfl) ?_
    refine wo_nil ?_
    refine wr_hp [(some (.rows g 8 [(rAirspace a)])), (some (.rows g1 8 [[.emp, .emp, .emp, .emp, .emp, .emp, .emp, .emp]])), (some (.rows g2 8 [(rAirspace a)])), none, none, none, none, none] rfl ?_
    refine wr_seq ?_
    refine wr_region ?_
    refine wo_bs0 rfl ti23 ti53 ?_
    refine wo_val (.ptr (ix ids 0) g 0 1) rfl (pv_fa (fa_ptr (c := 0) (off := 1) (i := 1) ti31 rfl ti23 rfl)) ?_
    refine wo_val (.sl 5 (List.map rSector a.Sectors)) rfl (pv_load (ld_ptr hI rfl rfl rfl ti23 rfl)) ?_
    refine of_need fun hl => ?_
    refine wo_append (e := rSector) (L := ([] : List Sector)) (L2 := a.Sectors) (v := .emp) (g := 0) (st := 5) (j := 3) hI rfl rfl rfl rfl .nil rfl (src_sl rfl) ti23 ti23 rfl ti53 rfl rfl rfl (by simpa using hl) fun v g3 vH => ?_
    refine wo_val (.ptr (ix ids 2) g2 0 1) rfl (pv_fa (fa_ptr (c := 0) (off := 1) (i := 1) ti31 rfl ti23 rfl)) ?_
    refine wo_store (st_ptrO vH hI rfl rfl rfl rfl ti23 rfl rfl rfl) ?_
    refine wo_nil ?_
    refine wr_hp [(some (.rows g 8 [(rAirspace a)])), (some (.rows g1 8 [[.emp, .emp, .emp, .emp, .emp, .emp, .emp, .emp]])), (some (.rows g2 8 [[(.sl 2 (List.map rVolume a.Volumes)), v, (.sl 3 (List.map rConfig a.Configs)), (.sl 5 (List.map rSegment a.Segments)), (.sl 7 (List.map rRoute a.Routes)), (.sl 2 (List.map rAirport a.Airports)), (.sl 4 (List.map rClass a.Classes)), (.sl 8 (List.map rRule a.Rules))]])), (ownO v g3 5 (List.map rSector a.Sectors)), none, none, none, none] rfl ?_
    refine wr_seq ?_
    refine wr_region ?_
    refine wo_bs0 rfl ti24 ti55 ?_
    refine wo_val (.ptr (ix ids 0) g 0 2) rfl (pv_fa (fa_ptr (c := 0) (off := 2) (i := 2) ti31 rfl ti24 rfl)) ?_
    refine wo_val (.sl 3 (List.map rConfig a.Configs)) rfl (pv_load (ld_ptr hI rfl rfl rfl ti24 rfl)) ?_
    refine of_need fun hl1 => ?_
    refine wo_append (e := rConfig) (L := ([] : List Config)) (L2 := a.Configs) (v := .emp) (g := 0) (st := 3) (j := 4) hI rfl rfl rfl rfl .nil rfl (src_sl rfl) ti24 ti24 rfl ti55 rfl rfl rfl (by simpa using hl1) fun v1 g4 vH1 => ?_
    refine wo_val (.ptr (ix ids 2) g2 0 2) rfl (pv_fa (fa_ptr (c := 0) (off := 2) (i := 2) ti31 rfl ti24 rfl)) ?_
    refine wo_store (st_ptrO vH1 hI rfl rfl rfl rfl ti24 rfl rfl rfl) ?_
    refine wo_nil ?_
    refine wr_hp [(some (.rows g 8 [(rAirspace a)])), (some (.rows g1 8 [[.emp, .emp, .emp, .emp, .emp, .emp, .emp, .emp]])), (some (.rows g2 8 [[(.sl 2 (List.map rVolume a.Volumes)), v, v1, (.sl 5 (List.map rSegment a.Segments)), (.sl 7 (List.map rRoute a.Routes)), (.sl 2 (List.map rAirport a.Airports)), (.sl 4 (List.map rClass a.Classes)), (.sl 8 (List.map rRule a.Rules))]])), (ownO v g3 5 (List.map rSector a.Sectors)), (ownO v1 g4 3 (List.map rConfig a.Configs)), none, none, none] rfl ?_
    refine wr_seq ?_
    refine wr_region ?_
    refine wo_bs0 rfl ti25 ti57 ?_
    refine wo_val (.ptr (ix ids 0) g 0 3) rfl (pv_fa (fa_ptr (c := 0) (off := 3) (i := 3) ti31 rfl ti25 rfl)) ?_
    refine wo_val (.sl 5 (List.map rSegment a.Segments)) rfl (pv_load (ld_ptr hI rfl rfl rfl ti25 rfl)) ?_
    refine of_need fun hl2 => ?_
    refine wo_append (e := rSegment) (L := ([] : List Segment)) (L2 := a.Segments) (v := .emp) (g := 0) (st := 5) (j := 5) hI rfl rfl rfl rfl .nil rfl (src_sl rfl) ti25 ti25 rfl ti57 rfl rfl rfl (by simpa using hl2) fun v2 g5 vH2 => ?_
    refine wo_val (.ptr (ix ids 2) g2 0 3) rfl (pv_fa (fa_ptr (c := 0) (off := 3) (i := 3) ti31 rfl ti25 rfl)) ?_
    refine wo_store (st_ptrO vH2 hI rfl rfl rfl rfl ti25 rfl rfl rfl) ?_
    refine wo_nil ?_
    refine wr_hp [(some (.rows g 8 [(rAirspace a)])), (some (.rows g1 8 [[.emp, .emp, .emp, .emp, .emp, .emp, .emp, .emp]])), (some (.rows g2 8 [[(.sl 2 (List.map rVolume a.Volumes)), v, v1, v2, (.sl 7 (List.map rRoute a.Routes)), (.sl 2 (List.map rAirport a.Airports)), (.sl 4 (List.map rClass a.Classes)), (.sl 8 (List.map rRule a.Rules))]])), (ownO v g3 5 (List.map rSector a.Sectors)), (ownO v1 g4 3 (List.map rConfig a.Configs)), (ownO v2 g5 5 (List.map rSegment a.Segments)), none, none] rfl ?_
    refine wr_seq ?_
    refine wr_region ?_
    refine wo_bs0 rfl ti26 ti59 ?_
    refine wo_val (.ptr (ix ids 0) g 0 4) rfl (pv_fa (fa_ptr (c := 0) (off := 4) (i := 4) ti31 rfl ti26 rfl)) ?_
    refine wo_val (.sl 7 (List.map rRoute a.Routes)) rfl (pv_load (ld_ptr hI rfl rfl rfl ti26 rfl)) ?_
    refine of_need fun hl3 => ?_
    refine wo_append (e := rRoute) (L := ([] : List Route)) (L2 := a.Routes) (v := .emp) (g := 0) (st := 7) (j := 6) hI rfl rfl rfl rfl .nil rfl (src_sl rfl) ti26 ti26 rfl ti59 rfl rfl rfl (by simpa using hl3) fun v3 g6 vH3 => ?_
    refine wo_val (.ptr (ix ids 2) g2 0 4) rfl (pv_fa (fa_ptr (c := 0) (off := 4) (i := 4) ti31 rfl ti26 rfl)) ?_
    refine wo_store (st_ptrO vH3 hI rfl rfl rfl rfl ti26 rfl rfl rfl) ?_
    refine wo_nil ?_
    refine wr_hp [(some (.rows g 8 [(rAirspace a)])), (some (.rows g1 8 [[.emp, .emp, .emp, .emp, .emp, .emp, .emp, .emp]])), (some (.rows g2 8 [[(.sl 2 (List.map rVolume a.Volumes)), v, v1, v2, v3, (.sl 2 (List.map rAirport a.Airports)), (.sl 4 (List.map rClass a.Classes)), (.sl 8 (List.map rRule a.Rules))]])), (ownO v g3 5 (List.map rSector a.Sectors)), (ownO v1 g4 3 (List.map rConfig a.Configs)), (ownO v2 g5 5 (List.map rSegment a.Segments)), (ownO v3 g6 7 (List.map rRoute a.Routes)), none] rfl ?_
    refine wr_seq ?_
    refine wr_region ?_
    refine wo_bs0 rfl ti29 ti63 ?_
    refine wo_val (.ptr (ix ids 0) g 0 7) rfl (pv_fa (fa_ptr (c := 0) (off := 7) (i := 7) ti31 rfl ti29 rfl)) ?_
    refine wo_val (.sl 8 (List.map rRule a.Rules)) rfl (pv_load (ld_ptr hI rfl rfl rfl ti29 rfl)) ?_
    refine of_need fun hl4 => ?_
    refine wo_append (e := rRule) (L := ([] : List Rule)) (L2 := a.Rules) (v := .emp) (g := 0) (st := 8) (j := 7) hI rfl rfl rfl rfl .nil rfl (src_sl rfl) ti29 ti29 rfl ti63 rfl rfl rfl (by simpa using hl4) fun v4 g7 vH4 => ?_
    refine wo_val (.ptr (ix ids 2) g2 0 7) rfl (pv_fa (fa_ptr (c := 0) (off := 7) (i := 7) ti31 rfl ti29 rfl)) ?_
    refine wo_store (st_ptrO vH4 hI rfl rfl rfl rfl ti29 rfl rfl rfl) ?_
    refine wo_nil ?_
    refine wr_hp [(some (.rows g 8 [(rAirspace a)])), (some (.rows g1 8 [[.emp, .emp, .emp, .emp, .emp, .emp, .emp, .emp]])), (some (.rows g2 8 [[(.sl 2 (List.map rVolume a.Volumes)), v, v1, v2, v3, (.sl 2 (List.map rAirport a.Airports)), (.sl 4 (List.map rClass a.Classes)), v4]])), (ownO v g3 5 (List.map rSector a.Sectors)), (ownO v1 g4 3 (List.map rConfig a.Configs)), (ownO v2 g5 5 (List.map rSegment a.Segments)), (ownO v3 g6 7 (List.map rRoute a.Routes)), (ownO v4 g7 8 (List.map rRule a.Rules))] rfl ?_
    refine wr_seq ?_
    refine wr_seq ?_
    refine wr_region ?_
    refine wo_val (.int .i64 0) rfl pv_assign ?_
    refine wo_nil ?_
    refine wf_join (un2 fun x2 l1 => ref09_Resolve_j5 a r1 r2 r3 r4 r5 x2 l1) (un2 fun x2 l1 => fun (fr : Nat → AV) (h : AHeap) => ∃ (v6 : AV), ∃ (g9 : Nat), OwnV v6 (ix ids 3) g9 l1.length ∧ fr = frA [(2, (.ptr (ix ids 1) g1 0 0)), (4, (.sl 1 (List.map rS r1))), (5, (.sl 1 (List.map rS r2))), (6, (.sl 1 (List.map rS r3))), (7, (.sl 1 (List.map rS r4))), (8, (.sl 1 (List.map rS r5))), (9, (.bool x2)), (10, (.ptr (ix ids 2) g2 0 0))] ∧ h = hp h0 ids [none, (some (.rows g1 8 [[.emp, .emp, .emp, .emp, .emp, .emp, .emp, .emp]])), (some (.rows g2 8 [[(.sl 2 (List.map rVolume a.Volumes)), v6, v1, v2, v3, (.sl 2 (List.map rAirport a.Airports)), (.sl 4 (List.map rClass a.Classes)), v4]])), (ownO v6 g9 5 (List.map rSector l1)), (ownO v1 g4 3 (List.map rConfig a.Configs)), (ownO v2 g5 5 (List.map rSegment a.Segments)), (ownO v3 g6 7 (List.map rRoute a.Routes)), (ownO v4 g7 8 (List.map rRule a.Rules))]) ?_ fun hJ11 => ?_
    · rintro ⟨x2, l1⟩ fr h ⟨v6, g9, vH7, rfl, rfl⟩
      refine wr_mod (ref09_Resolve_j5.eq_1 _ _ _ _ _ _ _ _) ?_
      refine wr_seq ?_
      refine wr_seq ?_
      refine wr_region ?_
      refine wo_val (.int .i64 0) rfl pv_assign ?_
      refine wo_nil ?_
      refine wf_join (un2 fun x5 l3 => ref09_Resolve_j4 a r1 r3 r4 r5 l1 x5 l3) (un2 fun x5 l3 => fun (fr : Nat → AV) (h : AHeap) => ∃ (v8 : AV), ∃ (g11 : Nat), OwnV v8 (ix ids 4) g11 l3.length ∧ fr = frA [(2, (.ptr (ix ids 1) g1 0 0)), (4, (.sl 1 (List.map rS r1))), (6, (.sl 1 (List.map rS r3))), (7, (.sl 1 (List.map rS r4))), (8, (.sl 1 (List.map rS r5))), (9, (.bool x5)), (10, (.ptr (ix ids 2) g2 0 0))] ∧ h = hp h0 ids [none, (some (.rows g1 8 [[.emp, .emp, .emp, .emp, .emp, .emp, .emp, .emp]])), (some (.rows g2 8 [[(.sl 2 (List.map rVolume a.Volumes)), v6, v8, v2, v3, (.sl 2 (List.map rAirport a.Airports)), (.sl 4 (List.map rClass a.Classes)), v4]])), (ownO v6 g9 5 (List.map rSector l1)), (ownO v8 g11 3 (List.map rConfig l3)), (ownO v2 g5 5 (List.map rSegment a.Segments)), (ownO v3 g6 7 (List.map rRoute a.Routes)), (ownO v4 g7 8 (List.map rRule a.Rules))]) ?_ fun hJ10 => ?_
      · rintro ⟨x5, l3⟩ fr h ⟨v8, g11, vH10, rfl, rfl⟩
        refine wr_mod (ref09_Resolve_j4.eq_1 _ _ _ _ _ _ _ _) ?_
        refine wr_seq ?_
        refine wr_seq ?_
        refine wr_region ?_
        refine wo_val (.int .i64 0) rfl pv_assign ?_
        refine wo_nil ?_
        refine wf_join (un2 fun x8 l5 => ref09_Resolve_j3 a r3 r4 r5 l1 l3 x8 l5) (un2 fun x8 l5 => fun (fr : Nat → AV) (h : AHeap) => ∃ (v10 : AV), ∃ (g13 : Nat), OwnV v10 (ix ids 5) g13 l5.length ∧ fr = frA [(2, (.ptr (ix ids 1) g1 0 0)), (6, (.sl 1 (List.map rS r3))), (7, (.sl 1 (List.map rS r4))), (8, (.sl 1 (List.map rS r5))), (9, (.bool x8)), (10, (.ptr (ix ids 2) g2 0 0))] ∧ h = hp h0 ids [none, (some (.rows g1 8 [[.emp, .emp, .emp, .emp, .emp, .emp, .emp, .emp]])), (some (.rows g2 8 [[(.sl 2 (List.map rVolume a.Volumes)), v6, v8, v10, v3, (.sl 2 (List.map rAirport a.Airports)), (.sl 4 (List.map rClass a.Classes)), v4]])), (ownO v6 g9 5 (List.map rSector l1)), (ownO v8 g11 3 (List.map rConfig l3)), (ownO v10 g13 5 (List.map rSegment l5)), (ownO v3 g6 7 (List.map rRoute a.Routes)), (ownO v4 g7 8 (List.map rRule a.Rules))]) ?_ fun hJ9 => ?_
        · rintro ⟨x8, l5⟩ fr h ⟨v10, g13, vH13, rfl, rfl⟩
          refine wr_mod (ref09_Resolve_j3.eq_1 _ _ _ _ _ _ _ _) ?_
          refine wr_seq ?_
          refine wr_seq ?_
          refine wr_region ?_
          refine wo_val (.int .i64 0) rfl pv_assign ?_
          refine wo_nil ?_
          refine wf_join (un2 fun x11 l7 => ref09_Resolve_j2 a r4 r5 l1 l3 l5 x11 l7) (un2 fun x11 l7 => fun (fr : Nat → AV) (h : AHeap) => ∃ (v12 : AV), ∃ (g15 : Nat), OwnV v12 (ix ids 6) g15 l7.length ∧ fr = frA [(2, (.ptr (ix ids 1) g1 0 0)), (7, (.sl 1 (List.map rS r4))), (8, (.sl 1 (List.map rS r5))), (9, (.bool x11)), (10, (.ptr (ix ids 2) g2 0 0))] ∧ h = hp h0 ids [none, (some (.rows g1 8 [[.emp, .emp, .emp, .emp, .emp, .emp, .emp, .emp]])), (some (.rows g2 8 [[(.sl 2 (List.map rVolume a.Volumes)), v6, v8, v10, v12, (.sl 2 (List.map rAirport a.Airports)), (.sl 4 (List.map rClass a.Classes)), v4]])), (ownO v6 g9 5 (List.map rSector l1)), (ownO v8 g11 3 (List.map rConfig l3)), (ownO v10 g13 5 (List.map rSegment l5)), (ownO v12 g15 7 (List.map rRoute l7)), (ownO v4 g7 8 (List.map rRule a.Rules))]) ?_ fun hJ8 => ?_
          · rintro ⟨x11, l7⟩ fr h ⟨v12, g15, vH18, rfl, rfl⟩
            refine wr_mod (ref09_Resolve_j2.eq_1 _ _ _ _ _ _ _ _) ?_
            refine wr_seq ?_
            refine wr_seq ?_
            refine wr_region ?_
            refine wo_val (.int .i64 0) rfl pv_assign ?_
            refine wo_nil ?_
            refine wf_join (un2 fun x14 l9 => ref09_Resolve_j1 a l1 l3 l5 l7 x14 l9) (un2 fun x14 l9 => fun (fr : Nat → AV) (h : AHeap) => ∃ (v14 : AV), ∃ (g17 : Nat), OwnV v14 (ix ids 7) g17 l9.length ∧ fr = frA [(2, (.ptr (ix ids 1) g1 0 0)), (9, (.bool x14)), (10, (.ptr (ix ids 2) g2 0 0))] ∧ h = hp h0 ids [none, (some (.rows g1 8 [[.emp, .emp, .emp, .emp, .emp, .emp, .emp, .emp]])), (some (.rows g2 8 [[(.sl 2 (List.map rVolume a.Volumes)), v6, v8, v10, v12, (.sl 2 (List.map rAirport a.Airports)), (.sl 4 (List.map rClass a.Classes)), v14]])), (ownO v6 g9 5 (List.map rSector l1)), (ownO v8 g11 3 (List.map rConfig l3)), (ownO v10 g13 5 (List.map rSegment l5)), (ownO v12 g15 7 (List.map rRoute l7)), (ownO v14 g17 8 (List.map rRule l9))]) ?_ fun hJ7 => ?_
            · rintro ⟨x14, l9⟩ fr h ⟨v14, g17, vH23, rfl, rfl⟩
              refine wr_mod (ref09_Resolve_j1.eq_1 _ _ _ _ _ _ _) ?_
              refine wr_seq ?_
              refine wr_seq ?_
              refine wr_region ?_
              refine wo_val (.bool x14) rfl pv_move ?_
              refine wo_val (.bool (!x14)) rfl (pv_un rfl) ?_
              refine wo_nil ?_
              refine wf_itebn rfl (fun hc7 => ?_) (fun hc7 => ?_)
              · refine wr_skip ?_
                refine wr_seq ?_
                refine wr_region ?_
                refine wo_val (.agg [(.sl 2 (List.map rVolume a.Volumes)), v6, v8, v10, v12, (.sl 2 (List.map rAirport a.Airports)), (.sl 4 (List.map rClass a.Classes)), v14]) rfl (pv_load (ld_ptr hI rfl rfl rfl ti31 rfl)) ?_
                refine wo_store (st_ptr hI rfl rfl rfl rfl ti31 rfl rfl rfl rfl (flat_cons rfl (flat_cons (OwnV.flat vH7) (flat_cons (OwnV.flat vH10) (flat_cons (OwnV.flat vH13) (flat_cons (OwnV.flat vH18) (flat_cons rfl (flat_cons rfl (flat_cons (OwnV.flat vH23) flat_nil))))))))) ?_
                refine wo_val (.int .i64 0) rfl pv_assign ?_
                refine wo_nil ?_
                refine wr_hp [none, (some (.rows g1 8 [[(.sl 2 (List.map rVolume a.Volumes)), v6, v8, v10, v12, (.sl 2 (List.map rAirport a.Airports)), (.sl 4 (List.map rClass a.Classes)), v14]])), (some (.rows g2 8 [[(.sl 2 (List.map rVolume a.Volumes)), v6, v8, v10, v12, (.sl 2 (List.map rAirport a.Airports)), (.sl 4 (List.map rClass a.Classes)), v14]])), (ownO v6 g9 5 (List.map rSector l1)), (ownO v8 g11 3 (List.map rConfig l3)), (ownO v10 g13 5 (List.map rSegment l5)), (ownO v12 g15 7 (List.map rRoute l7)), (ownO v14 g17 8 (List.map rRule l9))] rfl ?_
                exact wr_ret (a := (({ Volumes := a.Volumes, Sectors := l1, Configs := l3, Segments := l5, Routes := l7, Airports := a.Airports, Classes := a.Classes, Rules := l9 } : Airspace), 0)) (vs := [(.agg [(.sl 2 (List.map rVolume a.Volumes)), v6, v8, v10, v12, (.sl 2 (List.map rAirport a.Airports)), (.sl 4 (List.map rClass a.Classes)), v14]), (.int .i64 0)]) Try.func13 hI (ares_cell (ld_ptr hI rfl rfl rfl ti31 rfl) (ares_tmp ares_nil)) (.tupL (.cons (.aggL (.cons (.same _) (.cons (own_fz vH7 (hI.at rfl rfl) (hI.out rfl) (fun x => ok_Sector x)) (.cons (own_fz vH10 (hI.at rfl rfl) (hI.out rfl) (fun x => ok_Config x)) (.cons (own_fz vH13 (hI.at rfl rfl) (hI.out rfl) (fun x => ok_Segment x)) (.cons (own_fz vH18 (hI.at rfl rfl) (hI.out rfl) (fun x => ok_Route x)) (.cons (.same _) (.cons (.same _) (.cons (own_fz vH23 (hI.at rfl rfl) (hI.out rfl) (fun x => ok_Rule x)) .nil))))))))) (.cons (.same _) .nil)))
              · refine wr_seq ?_
                refine wr_region ?_
                refine wo_val (.agg [.emp, .emp, .emp, .emp, .emp, .emp, .emp, .emp]) rfl (pv_build (bd_st ti31 pl31 rfl)) ?_
                refine wo_store (st_ptr hI rfl rfl rfl rfl ti31 rfl rfl rfl rfl rfl) ?_
                refine wo_val (.int .i64 90) rfl pv_assign ?_
                refine wo_nil ?_
                exact wr_ret (a := (({ Volumes := [], Sectors := [], Configs := [], Segments := [], Routes := [], Airports := [], Classes := [], Rules := [] } : Airspace), 90)) (vs := [(.agg [.emp, .emp, .emp, .emp, .emp, .emp, .emp, .emp]), (.int .i64 90)]) Try.func13 hI (ares_cell (ld_ptr hI rfl rfl rfl ti31 rfl) (ares_tmp ares_nil)) (.tupL (.cons (.aggL (.cons (.emp _) (.cons (.emp _) (.cons (.emp _) (.cons (.emp _) (.cons (.emp _) (.cons (.emp _) (.cons (.emp _) (.cons (.emp _) .nil))))))))) (.cons (.same _) .nil)))
            · refine wr_block ?_
              refine wr_is [(2, (.ptr (ix ids 1) g1 0 0)), (7, (.sl 1 (List.map rS r4))), (8, (.sl 1 (List.map rS r5))), (9, (.bool x11)), (10, (.ptr (ix ids 2) g2 0 0)), (25, (.int .i64 0))] (.cons rfl (.cons rfl (.cons rfl (.cons rfl (.cons rfl (.cons rfl .nil)))))) ?_
              refine wf_loop' (un3 fun x12 x13 l8 => ref09_Resolve_b5 r4 r5 x12 x13 l8) ((un2 fun x14 l9 => ref09_Resolve_j1 a l1 l3 l5 l7 x14 l9) : _ → R (Airspace × Int))
                (un3 fun x12 x13 l8 => fun (fr : Nat → AV) (h : AHeap) => ∃ (v13 : AV), ∃ (g16 : Nat), OwnV v13 (ix ids 7) g16 l8.length ∧ fr = frA [(2, (.ptr (ix ids 1) g1 0 0)), (7, (.sl 1 (List.map rS r4))), (8, (.sl 1 (List.map rS r5))), (9, (.bool x12)), (10, (.ptr (ix ids 2) g2 0 0)), (25, (.int .i64 x13))] ∧ h = hp h0 ids [none, (some (.rows g1 8 [[.emp, .emp, .emp, .emp, .emp, .emp, .emp, .emp]])), (some (.rows g2 8 [[(.sl 2 (List.map rVolume a.Volumes)), v6, v8, v10, v12, (.sl 2 (List.map rAirport a.Airports)), (.sl 4 (List.map rClass a.Classes)), v13]])), (ownO v6 g9 5 (List.map rSector l1)), (ownO v8 g11 3 (List.map rConfig l3)), (ownO v10 g13 5 (List.map rSegment l5)), (ownO v12 g15 7 (List.map rRoute l7)), (ownO v13 g16 8 (List.map rRule l8))]) (x11, 0, a.Rules) ?_ ?_
              · exact ⟨v4, g7, vH4, rfl, rfl⟩
              · rintro vW4 hW4 ⟨x12, x13, l8⟩ fr h ⟨v13, g16, vH19, rfl, rfl⟩
                refine wr_mod (m' := ref09_Resolve_b5 r4 r5 x12 x13 l8) rfl (wr_mod (ref09_Resolve_b5.eq_1 _ _ _ _ _) ?_)
                refine wr_seq ?_
                refine wr_seq ?_
                refine wr_region ?_
                refine wo_val (.int .i64 x13) rfl pv_move ?_
                refine wo_val (.ptr (ix ids 2) g2 0 7) rfl (pv_fa (fa_ptr (c := 0) (off := 7) (i := 7) ti31 rfl ti29 rfl)) ?_
                refine wo_val v13 rfl (pv_load (ld_ptr hI rfl rfl rfl ti29 rfl)) ?_
                refine wo_val (.int .i64 (l8.length : Int)) rfl (pv_len (OwnV.len vH19 ti29)) ?_
                refine wo_val (.bool (decide (x13 < (l8.length : Int)))) rfl (pv_bin rfl rfl rfl) ?_
                refine wo_nil ?_
                refine wf_ite rfl (fun hc5 => ?_) (fun hc5 => ?_)
                · refine wr_skip ?_
                  refine wr_seq ?_
                  refine wr_block ?_
                  refine wr_seq ?_
                  refine wr_region ?_
                  refine wo_val (.sl 1 (List.map rS r5)) rfl pv_move ?_
                  refine wo_val (.ptr (ix ids 2) g2 0 7) rfl (pv_fa (fa_ptr (c := 0) (off := 7) (i := 7) ti31 rfl ti29 rfl)) ?_
                  refine wo_val v13 rfl (pv_load (ld_ptr hI rfl rfl rfl ti29 rfl)) ?_
                  refine wo_val (.int .i64 x13) rfl pv_move ?_
                  refine of_idx fun a10 hz9 hx16 => ?_
                  refine wo_val (.ptr (ix ids 7) g16 x13.toNat 0) rfl (pv_ixa (ixa_own hI rfl vH19 rfl ti29 ti63 rfl hz9 hx16)) ?_
                  refine wo_val (.ptr (ix ids 7) g16 x13.toNat 1) rfl (pv_fa (fa_ptr (c := 0) (off := 1) (i := 1) ti63 rfl ti9 rfl)) ?_
                  refine wo_val (.str a10.C) rfl (pv_load (ld_own hI rfl vH19 rfl hx16 ti9 rfl)) ?_
                  refine wo_bsC (e := rS) (L := [a10.C]) (st := 1) (rows := [[(.str a10.C)]]) rfl ti38 ti9 rfl rfl rfl rfl rfl (.cons (RowSim.refl _) .nil) (fun x => ok_S x) rfl rfl ?_
                  refine of_call [(.sl 1 (List.map rS r5)), (.sl 1 (List.map rS [a10.C]))] rfl rfl rfl rfl ((cp_ref09_numbers r5 [a10.C]) _) (fun v _ => wu_pan Try.func13 hI) fun r11 _ => ?_
                  refine wo_val (.tup [(.sl 1 (List.map (rI .i64) r11.1)), (.bool r11.2)]) rfl pv_move ?_
                  refine wo_val (.sl 1 (List.map (rI .i64) r11.1)) rfl (pv_ext rfl) ?_
                  refine wo_val (.bool r11.2) rfl (pv_ext rfl) ?_
                  refine wo_val (.sl 1 (List.map (rI .i64) r11.1)) rfl pv_assign ?_
                  refine wo_val (.bool r11.2) rfl pv_assign ?_
                  refine wo_nil ?_
                  refine wr_seq ?_
                  refine wr_draw hmix [[], [0], [], [], [3], [3, 4], [0, 1, 1, 2, 2, 3, 4, 5], [0, 1, 2, 3, 4, 5, 6], [0, 1, 2, 3, 4, 5, 6, 7]] [(false, 0), (false, 1), (false, 2), (false, 3), (false, 4), (false, 5), (false, 6), (false, 7), (true, 8)] (by kernel_rfl) ?_
                  refine wp_val (.ptr (ix ids 2) g2 0 7) rfl rfl (pv_fa (fa_ptr (c := 0) (off := 7) (i := 7) ti31 rfl ti29 rfl)) ?_
                  refine wp_val v13 rfl rfl (pv_load (ld_ptr hI rfl rfl rfl ti29 rfl)) ?_
                  refine wp_val (.int .i64 x13) rfl rfl pv_move ?_
                  refine wp_val (.sl 1 (List.map (rI .i64) r11.1)) rfl rfl pv_move ?_
                  refine op_idx fun a11 hz10 hx17 => ?_
                  refine wp_val (.cp [(.int .i64 a11)] 0) rfl rfl (pv_ixa (ixa_sl ti51 ti3 rfl hz10 hx17)) ?_
                  refine wp_val (.int .i64 a11) rfl rfl (pv_load (ld_cp ti3 rfl)) ?_
                  refine wp_val (.ptr (ix ids 7) g16 x13.toNat 0) rfl rfl (pv_ixa (ixa_own hI rfl vH19 rfl ti29 ti63 rfl hz9 hx16)) ?_
                  refine wp_val (.ptr (ix ids 7) g16 x13.toNat 3) rfl rfl (pv_fa (fa_ptr (c := 0) (off := 3) (i := 3) ti63 rfl ti3 rfl)) ?_
                  refine wp_op0 rfl (fun _ _ => rfl) (fun K hK => eff_store (st_own (y := { a10 with Class := a11 }) hI rfl rfl vH19 rfl hx16 ti3 rfl rfl rfl rfl rfl rfl) (hK _ _ (pend_yes rfl (pend_yes rfl (pend_yes rfl (pend_yes rfl (pend_yes rfl (pend_yes rfl (pend_yes rfl (pend_yes rfl pend_nil)))))))) ?_)) 
                  clear hK K
                  have vH20 := OwnV.set (i := x13.toNat) (y := { a10 with Class := a11 }) vH19
                  have hx18 := List.getElem?_set_self (a := { a10 with Class := a11 }) (lt_of_get hx16)
                  refine wp_nil ?_
                  refine wr_hp [none, (some (.rows g1 8 [[.emp, .emp, .emp, .emp, .emp, .emp, .emp, .emp]])), (some (.rows g2 8 [[(.sl 2 (List.map rVolume a.Volumes)), v6, v8, v10, v12, (.sl 2 (List.map rAirport a.Airports)), (.sl 4 (List.map rClass a.Classes)), v13]])), (ownO v6 g9 5 (List.map rSector l1)), (ownO v8 g11 3 (List.map rConfig l3)), (ownO v10 g13 5 (List.map rSegment l5)), (ownO v12 g15 7 (List.map rRoute l7)), (ownO v13 g16 8 (List.map rRule (l8.set x13.toNat { a10 with Class := a11 })))] rfl ?_
                  refine wr_seq ?_
                  refine wr_region ?_
                  refine wo_val (.ptr (ix ids 2) g2 0 7) rfl (pv_fa (fa_ptr (c := 0) (off := 7) (i := 7) ti31 rfl ti29 rfl)) ?_
                  refine wo_val v13 rfl (pv_load (ld_ptr hI rfl rfl rfl ti29 rfl)) ?_
                  refine wo_val (.int .i64 x13) rfl pv_move ?_
                  refine of_idx fun a12 hz11 hx19 => ?_
                  refine wo_val (.ptr (ix ids 7) g16 x13.toNat 0) rfl (pv_ixa (ixa_own hI rfl vH20 rfl ti29 ti63 rfl hz11 hx19)) ?_
                  refine wo_val (.ptr (ix ids 7) g16 x13.toNat 4) rfl (pv_fa (fa_ptr (c := 0) (off := 4) (i := 4) ti63 rfl ti3 rfl)) ?_
                  refine wo_store (st_own (y := { a12 with Airport := 0 }) hI rfl rfl vH20 rfl hx19 ti3 rfl rfl rfl rfl rfl rfl) ?_
                  have vH21 := OwnV.set (i := x13.toNat) (y := { a12 with Airport := 0 }) vH20
                  have hx20 := List.getElem?_set_self (a := { a12 with Airport := 0 }) (lt_of_get hx19)
                  refine wo_nil ?_
                  refine wr_hp [none, (some (.rows g1 8 [[.emp, .emp, .emp, .emp, .emp, .emp, .emp, .emp]])), (some (.rows g2 8 [[(.sl 2 (List.map rVolume a.Volumes)), v6, v8, v10, v12, (.sl 2 (List.map rAirport a.Airports)), (.sl 4 (List.map rClass a.Classes)), v13]])), (ownO v6 g9 5 (List.map rSector l1)), (ownO v8 g11 3 (List.map rConfig l3)), (ownO v10 g13 5 (List.map rSegment l5)), (ownO v12 g15 7 (List.map rRoute l7)), (ownO v13 g16 8 (List.map rRule ((l8.set x13.toNat { a10 with Class := a11 }).set x13.toNat { a12 with Airport := 0 })))] rfl ?_
                  refine wr_seq ?_
                  refine wr_region ?_
                  refine wo_val (.bool x12) rfl pv_move ?_
                  refine wo_val (.bool x12) rfl pv_move ?_
                  refine wo_meet 2 [(2, (.ptr (ix ids 1) g1 0 0)), (7, (.sl 1 (List.map rS r4))), (8, (.sl 1 (List.map rS r5))), (10, (.ptr (ix ids 2) g2 0 0)), (25, (.int .i64 x13)), (256, (.bool (x12 && r11.2)))] ?_ fun hJ5 => wo_cases x12 (fun hb11 => ?_) (fun hb11 => ?_)
                  · refine wo_val (.bool (x12 && r11.2)) rfl pv_assign ?_
                    refine wo_nil ?_
                    refine wr_seq ?_
                    refine wr_region ?_
                    refine wo_val (.ptr (ix ids 2) g2 0 7) rfl (pv_fa (fa_ptr (c := 0) (off := 7) (i := 7) ti31 rfl ti29 rfl)) ?_
                    refine wo_val v13 rfl (pv_load (ld_ptr hI rfl rfl rfl ti29 rfl)) ?_
                    refine wo_val (.int .i64 x13) rfl pv_move ?_
                    refine of_idx fun a13 hz12 hx21 => ?_
                    refine wo_val (.ptr (ix ids 7) g16 x13.toNat 0) rfl (pv_ixa (ixa_own hI rfl vH21 rfl ti29 ti63 rfl hz12 hx21)) ?_
                    refine wo_val (.ptr (ix ids 7) g16 x13.toNat 0) rfl (pv_fa (fa_ptr (c := 0) (off := 0) (i := 0) ti63 rfl ti3 rfl)) ?_
                    refine wo_val (.int .i64 a13.Kind) rfl (pv_load (ld_own hI rfl vH21 rfl hx21 ti3 rfl)) ?_
                    refine wo_val (.bool (a13.Kind == 1)) rfl (pv_bin rfl rfl rfl) ?_
                    refine wo_nil ?_
                    refine wf_iteb rfl (fun hc6 => ?_) (fun hc6 => ?_)
                    · refine wr_seq ?_
                      refine wr_region ?_
                      refine wo_val (.sl 1 (List.map rS r4)) rfl pv_move ?_
                      refine wo_val (.ptr (ix ids 2) g2 0 7) rfl (pv_fa (fa_ptr (c := 0) (off := 7) (i := 7) ti31 rfl ti29 rfl)) ?_
                      refine wo_val v13 rfl (pv_load (ld_ptr hI rfl rfl rfl ti29 rfl)) ?_
                      refine wo_val (.int .i64 x13) rfl pv_move ?_
                      refine wo_val (.ptr (ix ids 7) g16 x13.toNat 0) rfl (pv_ixa (ixa_own hI rfl vH21 rfl ti29 ti63 rfl hz12 hx21)) ?_
                      refine wo_val (.ptr (ix ids 7) g16 x13.toNat 2) rfl (pv_fa (fa_ptr (c := 0) (off := 2) (i := 2) ti63 rfl ti9 rfl)) ?_
                      refine wo_val (.str a13.A) rfl (pv_load (ld_own hI rfl vH21 rfl hx21 ti9 rfl)) ?_
                      refine wo_bsC (e := rS) (L := [a13.A]) (st := 1) (rows := [[(.str a13.A)]]) rfl ti38 ti9 rfl rfl rfl rfl rfl (.cons (RowSim.refl _) .nil) (fun x => ok_S x) rfl rfl ?_
                      refine of_call [(.sl 1 (List.map rS r4)), (.sl 1 (List.map rS [a13.A]))] rfl rfl rfl rfl ((cp_ref09_numbers r4 [a13.A]) _) (fun v _ => wu_pan Try.func13 hI) fun r12 _ => ?_
                      refine wo_val (.tup [(.sl 1 (List.map (rI .i64) r12.1)), (.bool r12.2)]) rfl pv_move ?_
                      refine wo_val (.sl 1 (List.map (rI .i64) r12.1)) rfl (pv_ext rfl) ?_
                      refine wo_val (.bool r12.2) rfl (pv_ext rfl) ?_
                      refine wo_val (.sl 1 (List.map (rI .i64) r12.1)) rfl pv_assign ?_
                      refine wo_val (.bool r12.2) rfl pv_assign ?_
                      refine wo_nil ?_
                      refine wr_seq ?_
                      refine wr_draw hmix [[], [0], [], [], [3], [3, 4], [0, 1, 1, 2, 2, 3, 4, 5], [0, 1, 2, 3, 4, 5, 6], [0, 1, 2, 3, 4, 5, 6, 7]] [(false, 0), (false, 1), (false, 2), (false, 3), (false, 4), (false, 5), (false, 6), (false, 7), (true, 8)] (by kernel_rfl) ?_
                      refine wp_val (.ptr (ix ids 2) g2 0 7) rfl rfl (pv_fa (fa_ptr (c := 0) (off := 7) (i := 7) ti31 rfl ti29 rfl)) ?_
                      refine wp_val v13 rfl rfl (pv_load (ld_ptr hI rfl rfl rfl ti29 rfl)) ?_
                      refine wp_val (.int .i64 x13) rfl rfl pv_move ?_
                      refine wp_val (.sl 1 (List.map (rI .i64) r12.1)) rfl rfl pv_move ?_
                      refine op_idx fun a14 hz13 hx22 => ?_
                      refine wp_val (.cp [(.int .i64 a14)] 0) rfl rfl (pv_ixa (ixa_sl ti51 ti3 rfl hz13 hx22)) ?_
                      refine wp_val (.int .i64 a14) rfl rfl (pv_load (ld_cp ti3 rfl)) ?_
                      refine wp_val (.ptr (ix ids 7) g16 x13.toNat 0) rfl rfl (pv_ixa (ixa_own hI rfl vH21 rfl ti29 ti63 rfl hz12 hx21)) ?_
                      refine wp_val (.ptr (ix ids 7) g16 x13.toNat 4) rfl rfl (pv_fa (fa_ptr (c := 0) (off := 4) (i := 4) ti63 rfl ti3 rfl)) ?_
                      refine wp_op0 rfl (fun _ _ => rfl) (fun K hK => eff_store (st_own (y := { a13 with Airport := a14 }) hI rfl rfl vH21 rfl hx21 ti3 rfl rfl rfl rfl rfl rfl) (hK _ _ (pend_yes rfl (pend_yes rfl (pend_yes rfl (pend_yes rfl (pend_yes rfl (pend_yes rfl (pend_yes rfl (pend_yes rfl pend_nil)))))))) ?_)) 
                      clear hK K
                      have vH22 := OwnV.set (i := x13.toNat) (y := { a13 with Airport := a14 }) vH21
                      have hx23 := List.getElem?_set_self (a := { a13 with Airport := a14 }) (lt_of_get hx21)
                      refine wp_nil ?_
                      refine wr_hp [none, (some (.rows g1 8 [[.emp, .emp, .emp, .emp, .emp, .emp, .emp, .emp]])), (some (.rows g2 8 [[(.sl 2 (List.map rVolume a.Volumes)), v6, v8, v10, v12, (.sl 2 (List.map rAirport a.Airports)), (.sl 4 (List.map rClass a.Classes)), v13]])), (ownO v6 g9 5 (List.map rSector l1)), (ownO v8 g11 3 (List.map rConfig l3)), (ownO v10 g13 5 (List.map rSegment l5)), (ownO v12 g15 7 (List.map rRoute l7)), (ownO v13 g16 8 (List.map rRule (((l8.set x13.toNat { a10 with Class := a11 }).set x13.toNat { a12 with Airport := 0 }).set x13.toNat { a13 with Airport := a14 })))] rfl ?_
                      refine wr_region ?_
                      refine wo_val (.bool (x12 && r11.2)) rfl pv_move ?_
                      refine wo_val (.bool (x12 && r11.2)) rfl pv_move ?_
                      refine wo_meet 2 [(2, (.ptr (ix ids 1) g1 0 0)), (7, (.sl 1 (List.map rS r4))), (8, (.sl 1 (List.map rS r5))), (10, (.ptr (ix ids 2) g2 0 0)), (25, (.int .i64 x13)), (287, (.bool ((x12 && r11.2) && r12.2)))] ?_ fun hJ6 => wo_cases (x12 && r11.2) (fun hb13 => ?_) (fun hb13 => ?_)
                      · refine wo_val (.bool ((x12 && r11.2) && r12.2)) rfl pv_assign ?_
                        refine wo_nil ?_
                        refine wr_inBlock ?_
                        refine wr_region ?_
                        refine wo_val (.int .i64 x13) rfl pv_move ?_
                        refine wo_val (.int .i64 (IntKind.wrap .i64 (x13 + 1))) rfl (pv_bin rfl rfl rfl) ?_
                        refine wo_val (.int .i64 (IntKind.wrap .i64 (x13 + 1))) rfl pv_assign ?_
                        refine wo_nil ?_
                        refine wr_is [(2, (.ptr (ix ids 1) g1 0 0)), (7, (.sl 1 (List.map rS r4))), (8, (.sl 1 (List.map rS r5))), (9, (.bool ((x12 && r11.2) && r12.2))), (10, (.ptr (ix ids 2) g2 0 0)), (25, (.int .i64 (IntKind.wrap .i64 (x13 + 1))))] (.cons rfl (.cons rfl (.cons rfl (.cons rfl (.cons rfl (.cons rfl .nil)))))) ?_
                        refine wb_loop ?_
                        refine hW4 (((x12 && r11.2) && r12.2), (IntKind.wrap .i64 (x13 + 1)), (((l8.set x13.toNat { a10 with Class := a11 }).set x13.toNat { a12 with Airport := 0 }).set x13.toNat { a13 with Airport := a14 })) _ _ ?_
                        exact ⟨v13, g16, vH22, rfl, rfl⟩
                      · refine wo_valg (tj := 285) (.bool r12.2) rfl (congrArg AV.bool hb13) rfl pv_move ?_
                        refine wo_val (.bool r12.2) rfl (pv_pick (t := true) (congrArg AV.bool hb13) rfl) ?_
                        exact wo_is [(2, (.ptr (ix ids 1) g1 0 0)), (7, (.sl 1 (List.map rS r4))), (8, (.sl 1 (List.map rS r5))), (10, (.ptr (ix ids 2) g2 0 0)), (25, (.int .i64 x13)), (287, (.bool ((x12 && r11.2) && r12.2)))] (.cons rfl (.cons rfl (.cons rfl (.cons rfl (.cons rfl (.cons (and_t hb13) .nil)))))) hJ6
                      · refine wo_not (tj := 285) (b := false) rfl (congrArg AV.bool hb13) rfl rfl ?_
                        refine wo_val (.bool false) rfl (pv_pick (t := false) (congrArg AV.bool hb13) rfl) ?_
                        exact wo_is [(2, (.ptr (ix ids 1) g1 0 0)), (7, (.sl 1 (List.map rS r4))), (8, (.sl 1 (List.map rS r5))), (10, (.ptr (ix ids 2) g2 0 0)), (25, (.int .i64 x13)), (287, (.bool ((x12 && r11.2) && r12.2)))] (.cons rfl (.cons rfl (.cons rfl (.cons rfl (.cons rfl (.cons (and_f hb13) .nil)))))) hJ6
                    · refine wr_skip ?_
                      refine wr_inBlock ?_
                      refine wr_region ?_
                      refine wo_val (.int .i64 x13) rfl pv_move ?_
                      refine wo_val (.int .i64 (IntKind.wrap .i64 (x13 + 1))) rfl (pv_bin rfl rfl rfl) ?_
                      refine wo_val (.int .i64 (IntKind.wrap .i64 (x13 + 1))) rfl pv_assign ?_
                      refine wo_nil ?_
                      refine wr_is [(2, (.ptr (ix ids 1) g1 0 0)), (7, (.sl 1 (List.map rS r4))), (8, (.sl 1 (List.map rS r5))), (9, (.bool (x12 && r11.2))), (10, (.ptr (ix ids 2) g2 0 0)), (25, (.int .i64 (IntKind.wrap .i64 (x13 + 1))))] (.cons rfl (.cons rfl (.cons rfl (.cons rfl (.cons rfl (.cons rfl .nil)))))) ?_
                      refine wb_loop ?_
                      refine hW4 ((x12 && r11.2), (IntKind.wrap .i64 (x13 + 1)), ((l8.set x13.toNat { a10 with Class := a11 }).set x13.toNat { a12 with Airport := 0 })) _ _ ?_
                      exact ⟨v13, g16, vH21, rfl, rfl⟩
                  · refine wo_valg (tj := 254) (.bool r11.2) rfl (congrArg AV.bool hb11) rfl pv_move ?_
                    refine wo_val (.bool r11.2) rfl (pv_pick (t := true) (congrArg AV.bool hb11) rfl) ?_
                    exact wo_is [(2, (.ptr (ix ids 1) g1 0 0)), (7, (.sl 1 (List.map rS r4))), (8, (.sl 1 (List.map rS r5))), (10, (.ptr (ix ids 2) g2 0 0)), (25, (.int .i64 x13)), (256, (.bool (x12 && r11.2)))] (.cons rfl (.cons rfl (.cons rfl (.cons rfl (.cons rfl (.cons (and_t hb11) .nil)))))) hJ5
                  · refine wo_not (tj := 254) (b := false) rfl (congrArg AV.bool hb11) rfl rfl ?_
                    refine wo_val (.bool false) rfl (pv_pick (t := false) (congrArg AV.bool hb11) rfl) ?_
                    exact wo_is [(2, (.ptr (ix ids 1) g1 0 0)), (7, (.sl 1 (List.map rS r4))), (8, (.sl 1 (List.map rS r5))), (10, (.ptr (ix ids 2) g2 0 0)), (25, (.int .i64 x13)), (256, (.bool (x12 && r11.2)))] (.cons rfl (.cons rfl (.cons rfl (.cons rfl (.cons rfl (.cons (and_f hb11) .nil)))))) hJ5
                · refine wr_exit rfl ?_
                  refine wx_loop ?_
                  refine wr_is [(2, (.ptr (ix ids 1) g1 0 0)), (9, (.bool x12)), (10, (.ptr (ix ids 2) g2 0 0))] (.cons rfl (.cons rfl (.cons rfl .nil))) ?_
                  refine hJ7 (x12, l8) _ _ ?_
                  exact ⟨v13, g16, vH19, rfl, rfl⟩
          · refine wr_block ?_
            refine wr_is [(2, (.ptr (ix ids 1) g1 0 0)), (6, (.sl 1 (List.map rS r3))), (7, (.sl 1 (List.map rS r4))), (8, (.sl 1 (List.map rS r5))), (9, (.bool x8)), (10, (.ptr (ix ids 2) g2 0 0)), (20, (.int .i64 0))] (.cons rfl (.cons rfl (.cons rfl (.cons rfl (.cons rfl (.cons rfl (.cons rfl .nil))))))) ?_
            refine wf_loop' (un3 fun x9 x10 l6 => ref09_Resolve_b4 r3 r4 x9 x10 l6) ((un2 fun x11 l7 => ref09_Resolve_j2 a r4 r5 l1 l3 l5 x11 l7) : _ → R (Airspace × Int))
              (un3 fun x9 x10 l6 => fun (fr : Nat → AV) (h : AHeap) => ∃ (v11 : AV), ∃ (g14 : Nat), OwnV v11 (ix ids 6) g14 l6.length ∧ fr = frA [(2, (.ptr (ix ids 1) g1 0 0)), (6, (.sl 1 (List.map rS r3))), (7, (.sl 1 (List.map rS r4))), (8, (.sl 1 (List.map rS r5))), (9, (.bool x9)), (10, (.ptr (ix ids 2) g2 0 0)), (20, (.int .i64 x10))] ∧ h = hp h0 ids [none, (some (.rows g1 8 [[.emp, .emp, .emp, .emp, .emp, .emp, .emp, .emp]])), (some (.rows g2 8 [[(.sl 2 (List.map rVolume a.Volumes)), v6, v8, v10, v11, (.sl 2 (List.map rAirport a.Airports)), (.sl 4 (List.map rClass a.Classes)), v4]])), (ownO v6 g9 5 (List.map rSector l1)), (ownO v8 g11 3 (List.map rConfig l3)), (ownO v10 g13 5 (List.map rSegment l5)), (ownO v11 g14 7 (List.map rRoute l6)), (ownO v4 g7 8 (List.map rRule a.Rules))]) (x8, 0, a.Routes) ?_ ?_
            · exact ⟨v3, g6, vH3, rfl, rfl⟩
            · rintro vW3 hW3 ⟨x9, x10, l6⟩ fr h ⟨v11, g14, vH14, rfl, rfl⟩
              refine wr_mod (m' := ref09_Resolve_b4 r3 r4 x9 x10 l6) rfl (wr_mod (ref09_Resolve_b4.eq_1 _ _ _ _ _) ?_)
              refine wr_seq ?_
              refine wr_seq ?_
              refine wr_region ?_
              refine wo_val (.int .i64 x10) rfl pv_move ?_
              refine wo_val (.ptr (ix ids 2) g2 0 4) rfl (pv_fa (fa_ptr (c := 0) (off := 4) (i := 4) ti31 rfl ti26 rfl)) ?_
              refine wo_val v11 rfl (pv_load (ld_ptr hI rfl rfl rfl ti26 rfl)) ?_
              refine wo_val (.int .i64 (l6.length : Int)) rfl (pv_len (OwnV.len vH14 ti26)) ?_
              refine wo_val (.bool (decide (x10 < (l6.length : Int)))) rfl (pv_bin rfl rfl rfl) ?_
              refine wo_nil ?_
              refine wf_ite rfl (fun hc4 => ?_) (fun hc4 => ?_)
              · refine wr_skip ?_
                refine wr_seq ?_
                refine wr_block ?_
                refine wr_seq ?_
                refine wr_draw hmix [[], [], [1], [], [1, 2, 3], [1, 2, 3, 4], [1, 2, 3, 4, 5], [], [7], [], [7, 8, 9], [7, 8, 9, 10], [7, 8, 9, 10, 11], [1, 2, 3, 4, 5, 6, 7, 8, 9, 10, 11, 12], [0, 1, 2, 3, 4, 5, 6, 7, 8, 9, 10, 11, 12, 13], [0, 1, 2, 3, 4, 5, 6, 7, 8, 9, 10, 11, 12, 13, 14], [0, 1, 2, 3, 4, 5, 6, 7, 8, 9, 10, 11, 12, 13, 14, 15], [0, 1, 2, 3, 4, 5, 6, 7, 8, 9, 10, 11, 12, 13, 14, 15], [0, 1, 2, 3, 4, 5, 6, 7, 8, 9, 10, 11, 12, 13, 14, 14, 15, 16, 16], [0, 1, 2, 3, 4, 5, 6, 7, 8, 9, 10, 11, 12, 13, 14, 15, 16, 17, 17, 18, 18]] [(false, 0), (false, 1), (false, 2), (false, 3), (false, 4), (false, 5), (false, 6), (false, 7), (false, 8), (false, 9), (false, 10), (false, 11), (false, 12), (true, 13), (true, 14), (false, 15), (false, 16), (false, 17), (false, 18), (false, 19)] (by kernel_rfl) ?_
                refine wp_val (.sl 1 (List.map rS r4)) rfl rfl pv_move ?_
                refine wp_val (.ptr (ix ids 2) g2 0 4) rfl rfl (pv_fa (fa_ptr (c := 0) (off := 4) (i := 4) ti31 rfl ti26 rfl)) ?_
                refine wp_val v11 rfl rfl (pv_load (ld_ptr hI rfl rfl rfl ti26 rfl)) ?_
                refine wp_val (.int .i64 x10) rfl rfl pv_move ?_
                refine op_idx fun a5 hz4 hx8 => ?_
                refine wp_val (.ptr (ix ids 6) g14 x10.toNat 0) rfl rfl (pv_ixa (ixa_own hI rfl vH14 rfl ti26 ti59 rfl hz4 hx8)) ?_
                refine wp_val (.ptr (ix ids 6) g14 x10.toNat 1) rfl rfl (pv_fa (fa_ptr (c := 0) (off := 1) (i := 1) ti59 rfl ti9 rfl)) ?_
                refine wp_val (.str a5.A) rfl rfl (pv_load (ld_own hI rfl vH14 rfl hx8 ti9 rfl)) ?_
                refine wp_val (.ptr (ix ids 2) g2 0 4) rfl rfl (pv_fa (fa_ptr (c := 0) (off := 4) (i := 4) ti31 rfl ti26 rfl)) ?_
                refine wp_val v11 rfl rfl (pv_load (ld_ptr hI rfl rfl rfl ti26 rfl)) ?_
                refine wp_val (.int .i64 x10) rfl rfl pv_move ?_
                refine wp_val (.ptr (ix ids 6) g14 x10.toNat 0) rfl rfl (pv_ixa (ixa_own hI rfl vH14 rfl ti26 ti59 rfl hz4 hx8)) ?_
                refine wp_val (.ptr (ix ids 6) g14 x10.toNat 2) rfl rfl (pv_fa (fa_ptr (c := 0) (off := 2) (i := 2) ti59 rfl ti9 rfl)) ?_
                refine wp_val (.str a5.B) rfl rfl (pv_load (ld_own hI rfl vH14 rfl hx8 ti9 rfl)) ?_
                refine wp_op rfl rfl (fun _ _ => rfl) (fun K hK => eff_bsC (e := rS) (L := [a5.A, a5.B]) (st := 1) (rows := [[(.str a5.A)], [(.str a5.B)]]) ti38 ti9 rfl rfl rfl rfl rfl (.cons (RowSim.refl _) (.cons (RowSim.refl _) .nil)) (fun x => ok_S x) rfl rfl (hK _ _ (pend_yes rfl (pend_yes rfl (pend_yes rfl (pend_yes rfl (pend_yes rfl (pend_yes rfl (pend_yes rfl (pend_yes rfl (pend_yes rfl (pend_yes rfl (pend_yes rfl (pend_yes rfl (pend_no rfl pv_move pend_nil))))))))))))) ?_)) 
                clear hK K
                refine wp_call [(.sl 1 (List.map rS r4)), (.sl 1 (List.map rS [a5.A, a5.B]))] rfl rfl rfl rfl rfl ((cp_ref09_numbers r4 [a5.A, a5.B]) _) (fun v _ _ _ => wu_pan Try.func13 hI) (pend_yes rfl (pend_yes rfl (pend_yes rfl (pend_yes rfl (pend_yes rfl (pend_yes rfl (pend_yes rfl (pend_yes rfl (pend_yes rfl (pend_yes rfl (pend_yes rfl (pend_yes rfl (pend_yes rfl pend_nil))))))))))))) fun r9 _ => ?_
                refine wp_val (.tup [(.sl 1 (List.map (rI .i64) r9.1)), (.bool r9.2)]) rfl rfl pv_move ?_
                refine wp_val (.sl 1 (List.map (rI .i64) r9.1)) rfl rfl (pv_ext rfl) ?_
                refine wp_val (.bool r9.2) rfl rfl (pv_ext rfl) ?_
                refine wp_val (.sl 1 (List.map (rI .i64) r9.1)) rfl rfl pv_assign ?_
                refine wp_val (.bool r9.2) rfl rfl pv_assign ?_
                refine wp_nil ?_
                refine wr_seq ?_
                refine wr_draw hmix [[], [0], [], [], [3], [3, 4], [0, 1, 1, 2, 2, 3, 4, 5], [0, 1, 2, 3, 4, 5, 6], [0, 1, 2, 3, 4, 5, 6, 7]] [(false, 0), (false, 1), (false, 2), (false, 3), (false, 4), (false, 5), (false, 6), (false, 7), (true, 8)] (by kernel_rfl) ?_
                refine wp_val (.ptr (ix ids 2) g2 0 4) rfl rfl (pv_fa (fa_ptr (c := 0) (off := 4) (i := 4) ti31 rfl ti26 rfl)) ?_
                refine wp_val v11 rfl rfl (pv_load (ld_ptr hI rfl rfl rfl ti26 rfl)) ?_
                refine wp_val (.int .i64 x10) rfl rfl pv_move ?_
                refine wp_val (.sl 1 (List.map (rI .i64) r9.1)) rfl rfl pv_move ?_
                refine op_idx fun a6 hz5 hx9 => ?_
                refine wp_val (.cp [(.int .i64 a6)] 0) rfl rfl (pv_ixa (ixa_sl ti51 ti3 rfl hz5 hx9)) ?_
                refine wp_val (.int .i64 a6) rfl rfl (pv_load (ld_cp ti3 rfl)) ?_
                refine wp_val (.ptr (ix ids 6) g14 x10.toNat 0) rfl rfl (pv_ixa (ixa_own hI rfl vH14 rfl ti26 ti59 rfl hz4 hx8)) ?_
                refine wp_val (.ptr (ix ids 6) g14 x10.toNat 3) rfl rfl (pv_fa (fa_ptr (c := 0) (off := 3) (i := 3) ti59 rfl ti3 rfl)) ?_
                refine wp_op0 rfl (fun _ _ => rfl) (fun K hK => eff_store (st_own (y := { a5 with From := a6 }) hI rfl rfl vH14 rfl hx8 ti3 rfl rfl rfl rfl rfl rfl) (hK _ _ (pend_yes rfl (pend_yes rfl (pend_yes rfl (pend_yes rfl (pend_yes rfl (pend_yes rfl (pend_yes rfl (pend_yes rfl pend_nil)))))))) ?_)) 
                clear hK K
                have vH15 := OwnV.set (i := x10.toNat) (y := { a5 with From := a6 }) vH14
                have hx10 := List.getElem?_set_self (a := { a5 with From := a6 }) (lt_of_get hx8)
                refine wp_nil ?_
                refine wr_hp [none, (some (.rows g1 8 [[.emp, .emp, .emp, .emp, .emp, .emp, .emp, .emp]])), (some (.rows g2 8 [[(.sl 2 (List.map rVolume a.Volumes)), v6, v8, v10, v11, (.sl 2 (List.map rAirport a.Airports)), (.sl 4 (List.map rClass a.Classes)), v4]])), (ownO v6 g9 5 (List.map rSector l1)), (ownO v8 g11 3 (List.map rConfig l3)), (ownO v10 g13 5 (List.map rSegment l5)), (ownO v11 g14 7 (List.map rRoute (l6.set x10.toNat { a5 with From := a6 }))), (ownO v4 g7 8 (List.map rRule a.Rules))] rfl ?_
                refine wr_seq ?_
                refine wr_draw hmix [[], [0], [], [], [3], [3, 4], [0, 1, 1, 2, 2, 3, 4, 5], [0, 1, 2, 3, 4, 5, 6], [0, 1, 2, 3, 4, 5, 6, 7]] [(false, 0), (false, 1), (false, 2), (false, 3), (false, 4), (false, 5), (false, 6), (false, 7), (true, 8)] (by kernel_rfl) ?_
                refine wp_val (.ptr (ix ids 2) g2 0 4) rfl rfl (pv_fa (fa_ptr (c := 0) (off := 4) (i := 4) ti31 rfl ti26 rfl)) ?_
                refine wp_val v11 rfl rfl (pv_load (ld_ptr hI rfl rfl rfl ti26 rfl)) ?_
                refine wp_val (.int .i64 x10) rfl rfl pv_move ?_
                refine wp_val (.sl 1 (List.map (rI .i64) r9.1)) rfl rfl pv_move ?_
                refine op_idx fun a7 hz6 hx11 => ?_
                refine wp_val (.cp [(.int .i64 a7)] 0) rfl rfl (pv_ixa (ixa_sl ti51 ti3 rfl hz6 hx11)) ?_
                refine wp_val (.int .i64 a7) rfl rfl (pv_load (ld_cp ti3 rfl)) ?_
                refine op_idx fun a8 hz7 hx12 => ?_
                refine wp_val (.ptr (ix ids 6) g14 x10.toNat 0) rfl rfl (pv_ixa (ixa_own hI rfl vH15 rfl ti26 ti59 rfl hz7 hx12)) ?_
                refine wp_val (.ptr (ix ids 6) g14 x10.toNat 4) rfl rfl (pv_fa (fa_ptr (c := 0) (off := 4) (i := 4) ti59 rfl ti3 rfl)) ?_
                refine wp_op0 rfl (fun _ _ => rfl) (fun K hK => eff_store (st_own (y := { a8 with To := a7 }) hI rfl rfl vH15 rfl hx12 ti3 rfl rfl rfl rfl rfl rfl) (hK _ _ (pend_yes rfl (pend_yes rfl (pend_yes rfl (pend_yes rfl (pend_yes rfl (pend_yes rfl (pend_yes rfl (pend_yes rfl pend_nil)))))))) ?_)) 
                clear hK K
                have vH16 := OwnV.set (i := x10.toNat) (y := { a8 with To := a7 }) vH15
                have hx13 := List.getElem?_set_self (a := { a8 with To := a7 }) (lt_of_get hx12)
                refine wp_nil ?_
                refine wr_hp [none, (some (.rows g1 8 [[.emp, .emp, .emp, .emp, .emp, .emp, .emp, .emp]])), (some (.rows g2 8 [[(.sl 2 (List.map rVolume a.Volumes)), v6, v8, v10, v11, (.sl 2 (List.map rAirport a.Airports)), (.sl 4 (List.map rClass a.Classes)), v4]])), (ownO v6 g9 5 (List.map rSector l1)), (ownO v8 g11 3 (List.map rConfig l3)), (ownO v10 g13 5 (List.map rSegment l5)), (ownO v11 g14 7 (List.map rRoute ((l6.set x10.toNat { a5 with From := a6 }).set x10.toNat { a8 with To := a7 }))), (ownO v4 g7 8 (List.map rRule a.Rules))] rfl ?_
                refine wr_seq ?_
                refine wr_region ?_
                refine wo_val (.sl 1 (List.map rS r3)) rfl pv_move ?_
                refine wo_val (.ptr (ix ids 2) g2 0 4) rfl (pv_fa (fa_ptr (c := 0) (off := 4) (i := 4) ti31 rfl ti26 rfl)) ?_
                refine wo_val v11 rfl (pv_load (ld_ptr hI rfl rfl rfl ti26 rfl)) ?_
                refine wo_val (.int .i64 x10) rfl pv_move ?_
                refine of_idx fun a9 hz8 hx14 => ?_
                refine wo_val (.ptr (ix ids 6) g14 x10.toNat 0) rfl (pv_ixa (ixa_own hI rfl vH16 rfl ti26 ti59 rfl hz8 hx14)) ?_
                refine wo_val (.ptr (ix ids 6) g14 x10.toNat 5) rfl (pv_fa (fa_ptr (c := 0) (off := 5) (i := 5) ti59 rfl ti38 rfl)) ?_
                refine wo_val (.sl 1 (List.map rS a9.Names)) rfl (pv_load (ld_own hI rfl vH16 rfl hx14 ti38 rfl)) ?_
                refine of_call [(.sl 1 (List.map rS r3)), (.sl 1 (List.map rS a9.Names))] rfl rfl rfl rfl ((cp_ref09_numbers r3 a9.Names) _) (fun v _ => wu_pan Try.func13 hI) fun r10 _ => ?_
                refine wo_val (.tup [(.sl 1 (List.map (rI .i64) r10.1)), (.bool r10.2)]) rfl pv_move ?_
                refine wo_val (.sl 1 (List.map (rI .i64) r10.1)) rfl (pv_ext rfl) ?_
                refine wo_val (.bool r10.2) rfl (pv_ext rfl) ?_
                refine wo_val (.sl 1 (List.map (rI .i64) r10.1)) rfl pv_assign ?_
                refine wo_val (.bool r10.2) rfl pv_assign ?_
                refine wo_nil ?_
                refine wr_seq ?_
                refine wr_region ?_
                refine wo_val (.ptr (ix ids 2) g2 0 4) rfl (pv_fa (fa_ptr (c := 0) (off := 4) (i := 4) ti31 rfl ti26 rfl)) ?_
                refine wo_val v11 rfl (pv_load (ld_ptr hI rfl rfl rfl ti26 rfl)) ?_
                refine wo_val (.int .i64 x10) rfl pv_move ?_
                refine wo_val (.sl 1 (List.map (rI .i64) r10.1)) rfl pv_move ?_
                refine wo_val (.ptr (ix ids 6) g14 x10.toNat 0) rfl (pv_ixa (ixa_own hI rfl vH16 rfl ti26 ti59 rfl hz8 hx14)) ?_
                refine wo_val (.ptr (ix ids 6) g14 x10.toNat 6) rfl (pv_fa (fa_ptr (c := 0) (off := 6) (i := 6) ti59 rfl ti51 rfl)) ?_
                refine wo_store (st_own (y := { a9 with Segments := r10.1 }) hI rfl rfl vH16 rfl hx14 ti51 rfl rfl rfl rfl rfl rfl) ?_
                have vH17 := OwnV.set (i := x10.toNat) (y := { a9 with Segments := r10.1 }) vH16
                have hx15 := List.getElem?_set_self (a := { a9 with Segments := r10.1 }) (lt_of_get hx14)
                refine wo_nil ?_
                refine wr_hp [none, (some (.rows g1 8 [[.emp, .emp, .emp, .emp, .emp, .emp, .emp, .emp]])), (some (.rows g2 8 [[(.sl 2 (List.map rVolume a.Volumes)), v6, v8, v10, v11, (.sl 2 (List.map rAirport a.Airports)), (.sl 4 (List.map rClass a.Classes)), v4]])), (ownO v6 g9 5 (List.map rSector l1)), (ownO v8 g11 3 (List.map rConfig l3)), (ownO v10 g13 5 (List.map rSegment l5)), (ownO v11 g14 7 (List.map rRoute (((l6.set x10.toNat { a5 with From := a6 }).set x10.toNat { a8 with To := a7 }).set x10.toNat { a9 with Segments := r10.1 }))), (ownO v4 g7 8 (List.map rRule a.Rules))] rfl ?_
                refine wr_region ?_
                refine wo_val (.bool x9) rfl pv_move ?_
                refine wo_val (.bool x9) rfl pv_move ?_
                refine wo_meet 2 [(2, (.ptr (ix ids 1) g1 0 0)), (6, (.sl 1 (List.map rS r3))), (7, (.sl 1 (List.map rS r4))), (8, (.sl 1 (List.map rS r5))), (10, (.ptr (ix ids 2) g2 0 0)), (20, (.int .i64 x10)), (24, (.bool r10.2)), (217, (.bool (x9 && r9.2)))] ?_ fun hJ3 => wo_cases x9 (fun hb7 => ?_) (fun hb7 => ?_)
                · refine wo_val (.bool (x9 && r9.2)) rfl pv_move ?_
                  refine wo_meet 2 [(2, (.ptr (ix ids 1) g1 0 0)), (6, (.sl 1 (List.map rS r3))), (7, (.sl 1 (List.map rS r4))), (8, (.sl 1 (List.map rS r5))), (10, (.ptr (ix ids 2) g2 0 0)), (20, (.int .i64 x10)), (220, (.bool ((x9 && r9.2) && r10.2)))] ?_ fun hJ4 => wo_cases (x9 && r9.2) (fun hb9 => ?_) (fun hb9 => ?_)
                  · refine wo_val (.bool ((x9 && r9.2) && r10.2)) rfl pv_assign ?_
                    refine wo_nil ?_
                    refine wr_inBlock ?_
                    refine wr_region ?_
                    refine wo_val (.int .i64 x10) rfl pv_move ?_
                    refine wo_val (.int .i64 (IntKind.wrap .i64 (x10 + 1))) rfl (pv_bin rfl rfl rfl) ?_
                    refine wo_val (.int .i64 (IntKind.wrap .i64 (x10 + 1))) rfl pv_assign ?_
                    refine wo_nil ?_
                    refine wr_is [(2, (.ptr (ix ids 1) g1 0 0)), (6, (.sl 1 (List.map rS r3))), (7, (.sl 1 (List.map rS r4))), (8, (.sl 1 (List.map rS r5))), (9, (.bool ((x9 && r9.2) && r10.2))), (10, (.ptr (ix ids 2) g2 0 0)), (20, (.int .i64 (IntKind.wrap .i64 (x10 + 1))))] (.cons rfl (.cons rfl (.cons rfl (.cons rfl (.cons rfl (.cons rfl (.cons rfl .nil))))))) ?_
                    refine wb_loop ?_
                    refine hW3 (((x9 && r9.2) && r10.2), (IntKind.wrap .i64 (x10 + 1)), (((l6.set x10.toNat { a5 with From := a6 }).set x10.toNat { a8 with To := a7 }).set x10.toNat { a9 with Segments := r10.1 })) _ _ ?_
                    exact ⟨v11, g14, vH17, rfl, rfl⟩
                  · refine wo_valg (tj := 218) (.bool r10.2) rfl (congrArg AV.bool hb9) rfl pv_move ?_
                    refine wo_val (.bool r10.2) rfl (pv_pick (t := true) (congrArg AV.bool hb9) rfl) ?_
                    exact wo_is [(2, (.ptr (ix ids 1) g1 0 0)), (6, (.sl 1 (List.map rS r3))), (7, (.sl 1 (List.map rS r4))), (8, (.sl 1 (List.map rS r5))), (10, (.ptr (ix ids 2) g2 0 0)), (20, (.int .i64 x10)), (220, (.bool ((x9 && r9.2) && r10.2)))] (.cons rfl (.cons rfl (.cons rfl (.cons rfl (.cons rfl (.cons rfl (.cons (and_t hb9) .nil))))))) hJ4
                  · refine wo_not (tj := 218) (b := false) rfl (congrArg AV.bool hb9) rfl rfl ?_
                    refine wo_val (.bool false) rfl (pv_pick (t := false) (congrArg AV.bool hb9) rfl) ?_
                    exact wo_is [(2, (.ptr (ix ids 1) g1 0 0)), (6, (.sl 1 (List.map rS r3))), (7, (.sl 1 (List.map rS r4))), (8, (.sl 1 (List.map rS r5))), (10, (.ptr (ix ids 2) g2 0 0)), (20, (.int .i64 x10)), (220, (.bool ((x9 && r9.2) && r10.2)))] (.cons rfl (.cons rfl (.cons rfl (.cons rfl (.cons rfl (.cons rfl (.cons (and_f hb9) .nil))))))) hJ4
                · refine wo_valg (tj := 215) (.bool r9.2) rfl (congrArg AV.bool hb7) rfl pv_move ?_
                  refine wo_val (.bool r9.2) rfl (pv_pick (t := true) (congrArg AV.bool hb7) rfl) ?_
                  exact wo_is [(2, (.ptr (ix ids 1) g1 0 0)), (6, (.sl 1 (List.map rS r3))), (7, (.sl 1 (List.map rS r4))), (8, (.sl 1 (List.map rS r5))), (10, (.ptr (ix ids 2) g2 0 0)), (20, (.int .i64 x10)), (24, (.bool r10.2)), (217, (.bool (x9 && r9.2)))] (.cons rfl (.cons rfl (.cons rfl (.cons rfl (.cons rfl (.cons rfl (.cons rfl (.cons (and_t hb7) .nil)))))))) hJ3
                · refine wo_not (tj := 215) (b := false) rfl (congrArg AV.bool hb7) rfl rfl ?_
                  refine wo_val (.bool false) rfl (pv_pick (t := false) (congrArg AV.bool hb7) rfl) ?_
                  exact wo_is [(2, (.ptr (ix ids 1) g1 0 0)), (6, (.sl 1 (List.map rS r3))), (7, (.sl 1 (List.map rS r4))), (8, (.sl 1 (List.map rS r5))), (10, (.ptr (ix ids 2) g2 0 0)), (20, (.int .i64 x10)), (24, (.bool r10.2)), (217, (.bool (x9 && r9.2)))] (.cons rfl (.cons rfl (.cons rfl (.cons rfl (.cons rfl (.cons rfl (.cons rfl (.cons (and_f hb7) .nil)))))))) hJ3
              · refine wr_exit rfl ?_
                refine wx_loop ?_
                refine wr_is [(2, (.ptr (ix ids 1) g1 0 0)), (7, (.sl 1 (List.map rS r4))), (8, (.sl 1 (List.map rS r5))), (9, (.bool x9)), (10, (.ptr (ix ids 2) g2 0 0))] (.cons rfl (.cons rfl (.cons rfl (.cons rfl (.cons rfl .nil))))) ?_
                refine hJ8 (x9, l6) _ _ ?_
                exact ⟨v11, g14, vH14, rfl, rfl⟩
        · refine wr_block ?_
          refine wr_is [(2, (.ptr (ix ids 1) g1 0 0)), (4, (.sl 1 (List.map rS r1))), (6, (.sl 1 (List.map rS r3))), (7, (.sl 1 (List.map rS r4))), (8, (.sl 1 (List.map rS r5))), (9, (.bool x5)), (10, (.ptr (ix ids 2) g2 0 0)), (17, (.int .i64 0))] (.cons rfl (.cons rfl (.cons rfl (.cons rfl (.cons rfl (.cons rfl (.cons rfl (.cons rfl .nil)))))))) ?_
          refine wf_loop' (un3 fun x6 x7 l4 => ref09_Resolve_b3 r1 x6 x7 l4) ((un2 fun x8 l5 => ref09_Resolve_j3 a r3 r4 r5 l1 l3 x8 l5) : _ → R (Airspace × Int))
            (un3 fun x6 x7 l4 => fun (fr : Nat → AV) (h : AHeap) => ∃ (v9 : AV), ∃ (g12 : Nat), OwnV v9 (ix ids 5) g12 l4.length ∧ fr = frA [(2, (.ptr (ix ids 1) g1 0 0)), (4, (.sl 1 (List.map rS r1))), (6, (.sl 1 (List.map rS r3))), (7, (.sl 1 (List.map rS r4))), (8, (.sl 1 (List.map rS r5))), (9, (.bool x6)), (10, (.ptr (ix ids 2) g2 0 0)), (17, (.int .i64 x7))] ∧ h = hp h0 ids [none, (some (.rows g1 8 [[.emp, .emp, .emp, .emp, .emp, .emp, .emp, .emp]])), (some (.rows g2 8 [[(.sl 2 (List.map rVolume a.Volumes)), v6, v8, v9, v3, (.sl 2 (List.map rAirport a.Airports)), (.sl 4 (List.map rClass a.Classes)), v4]])), (ownO v6 g9 5 (List.map rSector l1)), (ownO v8 g11 3 (List.map rConfig l3)), (ownO v9 g12 5 (List.map rSegment l4)), (ownO v3 g6 7 (List.map rRoute a.Routes)), (ownO v4 g7 8 (List.map rRule a.Rules))]) (x5, 0, a.Segments) ?_ ?_
          · exact ⟨v2, g5, vH2, rfl, rfl⟩
          · rintro vW2 hW2 ⟨x6, x7, l4⟩ fr h ⟨v9, g12, vH11, rfl, rfl⟩
            refine wr_mod (m' := ref09_Resolve_b3 r1 x6 x7 l4) rfl (wr_mod (ref09_Resolve_b3.eq_1 _ _ _ _) ?_)
            refine wr_seq ?_
            refine wr_seq ?_
            refine wr_region ?_
            refine wo_val (.int .i64 x7) rfl pv_move ?_
            refine wo_val (.ptr (ix ids 2) g2 0 3) rfl (pv_fa (fa_ptr (c := 0) (off := 3) (i := 3) ti31 rfl ti25 rfl)) ?_
            refine wo_val v9 rfl (pv_load (ld_ptr hI rfl rfl rfl ti25 rfl)) ?_
            refine wo_val (.int .i64 (l4.length : Int)) rfl (pv_len (OwnV.len vH11 ti25)) ?_
            refine wo_val (.bool (decide (x7 < (l4.length : Int)))) rfl (pv_bin rfl rfl rfl) ?_
            refine wo_nil ?_
            refine wf_ite rfl (fun hc3 => ?_) (fun hc3 => ?_)
            · refine wr_skip ?_
              refine wr_seq ?_
              refine wr_block ?_
              refine wr_seq ?_
              refine wr_region ?_
              refine wo_val (.sl 1 (List.map rS r1)) rfl pv_move ?_
              refine wo_val (.ptr (ix ids 2) g2 0 3) rfl (pv_fa (fa_ptr (c := 0) (off := 3) (i := 3) ti31 rfl ti25 rfl)) ?_
              refine wo_val v9 rfl (pv_load (ld_ptr hI rfl rfl rfl ti25 rfl)) ?_
              refine wo_val (.int .i64 x7) rfl pv_move ?_
              refine of_idx fun a3 hz2 hx5 => ?_
              refine wo_val (.ptr (ix ids 5) g12 x7.toNat 0) rfl (pv_ixa (ixa_own hI rfl vH11 rfl ti25 ti57 rfl hz2 hx5)) ?_
              refine wo_val (.ptr (ix ids 5) g12 x7.toNat 1) rfl (pv_fa (fa_ptr (c := 0) (off := 1) (i := 1) ti57 rfl ti9 rfl)) ?_
              refine wo_val (.str a3.In) rfl (pv_load (ld_own hI rfl vH11 rfl hx5 ti9 rfl)) ?_
              refine wo_bsC (e := rS) (L := [a3.In]) (st := 1) (rows := [[(.str a3.In)]]) rfl ti38 ti9 rfl rfl rfl rfl rfl (.cons (RowSim.refl _) .nil) (fun x => ok_S x) rfl rfl ?_
              refine of_call [(.sl 1 (List.map rS r1)), (.sl 1 (List.map rS [a3.In]))] rfl rfl rfl rfl ((cp_ref09_numbers r1 [a3.In]) _) (fun v _ => wu_pan Try.func13 hI) fun r8 _ => ?_
              refine wo_val (.tup [(.sl 1 (List.map (rI .i64) r8.1)), (.bool r8.2)]) rfl pv_move ?_
              refine wo_val (.sl 1 (List.map (rI .i64) r8.1)) rfl (pv_ext rfl) ?_
              refine wo_val (.bool r8.2) rfl (pv_ext rfl) ?_
              refine wo_val (.sl 1 (List.map (rI .i64) r8.1)) rfl pv_assign ?_
              refine wo_val (.bool r8.2) rfl pv_assign ?_
              refine wo_nil ?_
              refine wr_seq ?_
              refine wr_draw hmix [[], [0], [], [], [3], [3, 4], [0, 1, 1, 2, 2, 3, 4, 5], [0, 1, 2, 3, 4, 5, 6], [0, 1, 2, 3, 4, 5, 6, 7]] [(false, 0), (false, 1), (false, 2), (false, 3), (false, 4), (false, 5), (false, 6), (false, 7), (true, 8)] (by kernel_rfl) ?_
              refine wp_val (.ptr (ix ids 2) g2 0 3) rfl rfl (pv_fa (fa_ptr (c := 0) (off := 3) (i := 3) ti31 rfl ti25 rfl)) ?_
              refine wp_val v9 rfl rfl (pv_load (ld_ptr hI rfl rfl rfl ti25 rfl)) ?_
              refine wp_val (.int .i64 x7) rfl rfl pv_move ?_
              refine wp_val (.sl 1 (List.map (rI .i64) r8.1)) rfl rfl pv_move ?_
              refine op_idx fun a4 hz3 hx6 => ?_
              refine wp_val (.cp [(.int .i64 a4)] 0) rfl rfl (pv_ixa (ixa_sl ti51 ti3 rfl hz3 hx6)) ?_
              refine wp_val (.int .i64 a4) rfl rfl (pv_load (ld_cp ti3 rfl)) ?_
              refine wp_val (.ptr (ix ids 5) g12 x7.toNat 0) rfl rfl (pv_ixa (ixa_own hI rfl vH11 rfl ti25 ti57 rfl hz2 hx5)) ?_
              refine wp_val (.ptr (ix ids 5) g12 x7.toNat 2) rfl rfl (pv_fa (fa_ptr (c := 0) (off := 2) (i := 2) ti57 rfl ti3 rfl)) ?_
              refine wp_op0 rfl (fun _ _ => rfl) (fun K hK => eff_store (st_own (y := { a3 with Volume := a4 }) hI rfl rfl vH11 rfl hx5 ti3 rfl rfl rfl rfl rfl rfl) (hK _ _ (pend_yes rfl (pend_yes rfl (pend_yes rfl (pend_yes rfl (pend_yes rfl (pend_yes rfl (pend_yes rfl (pend_yes rfl pend_nil)))))))) ?_)) 
              clear hK K
              have vH12 := OwnV.set (i := x7.toNat) (y := { a3 with Volume := a4 }) vH11
              have hx7 := List.getElem?_set_self (a := { a3 with Volume := a4 }) (lt_of_get hx5)
              refine wp_nil ?_
              refine wr_hp [none, (some (.rows g1 8 [[.emp, .emp, .emp, .emp, .emp, .emp, .emp, .emp]])), (some (.rows g2 8 [[(.sl 2 (List.map rVolume a.Volumes)), v6, v8, v9, v3, (.sl 2 (List.map rAirport a.Airports)), (.sl 4 (List.map rClass a.Classes)), v4]])), (ownO v6 g9 5 (List.map rSector l1)), (ownO v8 g11 3 (List.map rConfig l3)), (ownO v9 g12 5 (List.map rSegment (l4.set x7.toNat { a3 with Volume := a4 }))), (ownO v3 g6 7 (List.map rRoute a.Routes)), (ownO v4 g7 8 (List.map rRule a.Rules))] rfl ?_
              refine wr_region ?_
              refine wo_val (.bool x6) rfl pv_move ?_
              refine wo_val (.bool x6) rfl pv_move ?_
              refine wo_meet 2 [(2, (.ptr (ix ids 1) g1 0 0)), (4, (.sl 1 (List.map rS r1))), (6, (.sl 1 (List.map rS r3))), (7, (.sl 1 (List.map rS r4))), (8, (.sl 1 (List.map rS r5))), (10, (.ptr (ix ids 2) g2 0 0)), (17, (.int .i64 x7)), (155, (.bool (x6 && r8.2)))] ?_ fun hJ2 => wo_cases x6 (fun hb5 => ?_) (fun hb5 => ?_)
              · refine wo_val (.bool (x6 && r8.2)) rfl pv_assign ?_
                refine wo_nil ?_
                refine wr_inBlock ?_
                refine wr_region ?_
                refine wo_val (.int .i64 x7) rfl pv_move ?_
                refine wo_val (.int .i64 (IntKind.wrap .i64 (x7 + 1))) rfl (pv_bin rfl rfl rfl) ?_
                refine wo_val (.int .i64 (IntKind.wrap .i64 (x7 + 1))) rfl pv_assign ?_
                refine wo_nil ?_
                refine wr_is [(2, (.ptr (ix ids 1) g1 0 0)), (4, (.sl 1 (List.map rS r1))), (6, (.sl 1 (List.map rS r3))), (7, (.sl 1 (List.map rS r4))), (8, (.sl 1 (List.map rS r5))), (9, (.bool (x6 && r8.2))), (10, (.ptr (ix ids 2) g2 0 0)), (17, (.int .i64 (IntKind.wrap .i64 (x7 + 1))))] (.cons rfl (.cons rfl (.cons rfl (.cons rfl (.cons rfl (.cons rfl (.cons rfl (.cons rfl .nil)))))))) ?_
                refine wb_loop ?_
                refine hW2 ((x6 && r8.2), (IntKind.wrap .i64 (x7 + 1)), (l4.set x7.toNat { a3 with Volume := a4 })) _ _ ?_
                exact ⟨v9, g12, vH12, rfl, rfl⟩
              · refine wo_valg (tj := 153) (.bool r8.2) rfl (congrArg AV.bool hb5) rfl pv_move ?_
                refine wo_val (.bool r8.2) rfl (pv_pick (t := true) (congrArg AV.bool hb5) rfl) ?_
                exact wo_is [(2, (.ptr (ix ids 1) g1 0 0)), (4, (.sl 1 (List.map rS r1))), (6, (.sl 1 (List.map rS r3))), (7, (.sl 1 (List.map rS r4))), (8, (.sl 1 (List.map rS r5))), (10, (.ptr (ix ids 2) g2 0 0)), (17, (.int .i64 x7)), (155, (.bool (x6 && r8.2)))] (.cons rfl (.cons rfl (.cons rfl (.cons rfl (.cons rfl (.cons rfl (.cons rfl (.cons (and_t hb5) .nil)))))))) hJ2
              · refine wo_not (tj := 153) (b := false) rfl (congrArg AV.bool hb5) rfl rfl ?_
                refine wo_val (.bool false) rfl (pv_pick (t := false) (congrArg AV.bool hb5) rfl) ?_
                exact wo_is [(2, (.ptr (ix ids 1) g1 0 0)), (4, (.sl 1 (List.map rS r1))), (6, (.sl 1 (List.map rS r3))), (7, (.sl 1 (List.map rS r4))), (8, (.sl 1 (List.map rS r5))), (10, (.ptr (ix ids 2) g2 0 0)), (17, (.int .i64 x7)), (155, (.bool (x6 && r8.2)))] (.cons rfl (.cons rfl (.cons rfl (.cons rfl (.cons rfl (.cons rfl (.cons rfl (.cons (and_f hb5) .nil)))))))) hJ2
            · refine wr_exit rfl ?_
              refine wx_loop ?_
              refine wr_is [(2, (.ptr (ix ids 1) g1 0 0)), (6, (.sl 1 (List.map rS r3))), (7, (.sl 1 (List.map rS r4))), (8, (.sl 1 (List.map rS r5))), (9, (.bool x6)), (10, (.ptr (ix ids 2) g2 0 0))] (.cons rfl (.cons rfl (.cons rfl (.cons rfl (.cons rfl (.cons rfl .nil)))))) ?_
              refine hJ9 (x6, l4) _ _ ?_
              exact ⟨v9, g12, vH11, rfl, rfl⟩
      · refine wr_block ?_
        refine wr_is [(2, (.ptr (ix ids 1) g1 0 0)), (4, (.sl 1 (List.map rS r1))), (5, (.sl 1 (List.map rS r2))), (6, (.sl 1 (List.map rS r3))), (7, (.sl 1 (List.map rS r4))), (8, (.sl 1 (List.map rS r5))), (9, (.bool x2)), (10, (.ptr (ix ids 2) g2 0 0)), (14, (.int .i64 0))] (.cons rfl (.cons rfl (.cons rfl (.cons rfl (.cons rfl (.cons rfl (.cons rfl (.cons rfl (.cons rfl .nil))))))))) ?_
        refine wf_loop' (un3 fun x3 x4 l2 => ref09_Resolve_b2 r2 x3 x4 l2) ((un2 fun x5 l3 => ref09_Resolve_j4 a r1 r3 r4 r5 l1 x5 l3) : _ → R (Airspace × Int))
          (un3 fun x3 x4 l2 => fun (fr : Nat → AV) (h : AHeap) => ∃ (v7 : AV), ∃ (g10 : Nat), OwnV v7 (ix ids 4) g10 l2.length ∧ fr = frA [(2, (.ptr (ix ids 1) g1 0 0)), (4, (.sl 1 (List.map rS r1))), (5, (.sl 1 (List.map rS r2))), (6, (.sl 1 (List.map rS r3))), (7, (.sl 1 (List.map rS r4))), (8, (.sl 1 (List.map rS r5))), (9, (.bool x3)), (10, (.ptr (ix ids 2) g2 0 0)), (14, (.int .i64 x4))] ∧ h = hp h0 ids [none, (some (.rows g1 8 [[.emp, .emp, .emp, .emp, .emp, .emp, .emp, .emp]])), (some (.rows g2 8 [[(.sl 2 (List.map rVolume a.Volumes)), v6, v7, v2, v3, (.sl 2 (List.map rAirport a.Airports)), (.sl 4 (List.map rClass a.Classes)), v4]])), (ownO v6 g9 5 (List.map rSector l1)), (ownO v7 g10 3 (List.map rConfig l2)), (ownO v2 g5 5 (List.map rSegment a.Segments)), (ownO v3 g6 7 (List.map rRoute a.Routes)), (ownO v4 g7 8 (List.map rRule a.Rules))]) (x2, 0, a.Configs) ?_ ?_
        · exact ⟨v1, g4, vH1, rfl, rfl⟩
        · rintro vW1 hW1 ⟨x3, x4, l2⟩ fr h ⟨v7, g10, vH8, rfl, rfl⟩
          refine wr_mod (m' := ref09_Resolve_b2 r2 x3 x4 l2) rfl (wr_mod (ref09_Resolve_b2.eq_1 _ _ _ _) ?_)
          refine wr_seq ?_
          refine wr_seq ?_
          refine wr_region ?_
          refine wo_val (.int .i64 x4) rfl pv_move ?_
          refine wo_val (.ptr (ix ids 2) g2 0 2) rfl (pv_fa (fa_ptr (c := 0) (off := 2) (i := 2) ti31 rfl ti24 rfl)) ?_
          refine wo_val v7 rfl (pv_load (ld_ptr hI rfl rfl rfl ti24 rfl)) ?_
          refine wo_val (.int .i64 (l2.length : Int)) rfl (pv_len (OwnV.len vH8 ti24)) ?_
          refine wo_val (.bool (decide (x4 < (l2.length : Int)))) rfl (pv_bin rfl rfl rfl) ?_
          refine wo_nil ?_
          refine wf_ite rfl (fun hc2 => ?_) (fun hc2 => ?_)
          · refine wr_skip ?_
            refine wr_seq ?_
            refine wr_block ?_
            refine wr_seq ?_
            refine wr_region ?_
            refine wo_val (.sl 1 (List.map rS r2)) rfl pv_move ?_
            refine wo_val (.ptr (ix ids 2) g2 0 2) rfl (pv_fa (fa_ptr (c := 0) (off := 2) (i := 2) ti31 rfl ti24 rfl)) ?_
            refine wo_val v7 rfl (pv_load (ld_ptr hI rfl rfl rfl ti24 rfl)) ?_
            refine wo_val (.int .i64 x4) rfl pv_move ?_
            refine of_idx fun a2 hz1 hx3 => ?_
            refine wo_val (.ptr (ix ids 4) g10 x4.toNat 0) rfl (pv_ixa (ixa_own hI rfl vH8 rfl ti24 ti55 rfl hz1 hx3)) ?_
            refine wo_val (.ptr (ix ids 4) g10 x4.toNat 1) rfl (pv_fa (fa_ptr (c := 0) (off := 1) (i := 1) ti55 rfl ti38 rfl)) ?_
            refine wo_val (.sl 1 (List.map rS a2.Names)) rfl (pv_load (ld_own hI rfl vH8 rfl hx3 ti38 rfl)) ?_
            refine of_call [(.sl 1 (List.map rS r2)), (.sl 1 (List.map rS a2.Names))] rfl rfl rfl rfl ((cp_ref09_numbers r2 a2.Names) _) (fun v _ => wu_pan Try.func13 hI) fun r7 _ => ?_
            refine wo_val (.tup [(.sl 1 (List.map (rI .i64) r7.1)), (.bool r7.2)]) rfl pv_move ?_
            refine wo_val (.sl 1 (List.map (rI .i64) r7.1)) rfl (pv_ext rfl) ?_
            refine wo_val (.bool r7.2) rfl (pv_ext rfl) ?_
            refine wo_val (.sl 1 (List.map (rI .i64) r7.1)) rfl pv_assign ?_
            refine wo_val (.bool r7.2) rfl pv_assign ?_
            refine wo_nil ?_
            refine wr_seq ?_
            refine wr_region ?_
            refine wo_val (.ptr (ix ids 2) g2 0 2) rfl (pv_fa (fa_ptr (c := 0) (off := 2) (i := 2) ti31 rfl ti24 rfl)) ?_
            refine wo_val v7 rfl (pv_load (ld_ptr hI rfl rfl rfl ti24 rfl)) ?_
            refine wo_val (.int .i64 x4) rfl pv_move ?_
            refine wo_val (.sl 1 (List.map (rI .i64) r7.1)) rfl pv_move ?_
            refine wo_val (.ptr (ix ids 4) g10 x4.toNat 0) rfl (pv_ixa (ixa_own hI rfl vH8 rfl ti24 ti55 rfl hz1 hx3)) ?_
            refine wo_val (.ptr (ix ids 4) g10 x4.toNat 2) rfl (pv_fa (fa_ptr (c := 0) (off := 2) (i := 2) ti55 rfl ti51 rfl)) ?_
            refine wo_store (st_own (y := { a2 with Sectors := r7.1 }) hI rfl rfl vH8 rfl hx3 ti51 rfl rfl rfl rfl rfl rfl) ?_
            have vH9 := OwnV.set (i := x4.toNat) (y := { a2 with Sectors := r7.1 }) vH8
            have hx4 := List.getElem?_set_self (a := { a2 with Sectors := r7.1 }) (lt_of_get hx3)
            refine wo_nil ?_
            refine wr_hp [none, (some (.rows g1 8 [[.emp, .emp, .emp, .emp, .emp, .emp, .emp, .emp]])), (some (.rows g2 8 [[(.sl 2 (List.map rVolume a.Volumes)), v6, v7, v2, v3, (.sl 2 (List.map rAirport a.Airports)), (.sl 4 (List.map rClass a.Classes)), v4]])), (ownO v6 g9 5 (List.map rSector l1)), (ownO v7 g10 3 (List.map rConfig (l2.set x4.toNat { a2 with Sectors := r7.1 }))), (ownO v2 g5 5 (List.map rSegment a.Segments)), (ownO v3 g6 7 (List.map rRoute a.Routes)), (ownO v4 g7 8 (List.map rRule a.Rules))] rfl ?_
            refine wr_region ?_
            refine wo_val (.bool x3) rfl pv_move ?_
            refine wo_val (.bool x3) rfl pv_move ?_
            refine wo_meet 2 [(2, (.ptr (ix ids 1) g1 0 0)), (4, (.sl 1 (List.map rS r1))), (5, (.sl 1 (List.map rS r2))), (6, (.sl 1 (List.map rS r3))), (7, (.sl 1 (List.map rS r4))), (8, (.sl 1 (List.map rS r5))), (10, (.ptr (ix ids 2) g2 0 0)), (14, (.int .i64 x4)), (124, (.bool (x3 && r7.2)))] ?_ fun hJ1 => wo_cases x3 (fun hb3 => ?_) (fun hb3 => ?_)
            · refine wo_val (.bool (x3 && r7.2)) rfl pv_assign ?_
              refine wo_nil ?_
              refine wr_inBlock ?_
              refine wr_region ?_
              refine wo_val (.int .i64 x4) rfl pv_move ?_
              refine wo_val (.int .i64 (IntKind.wrap .i64 (x4 + 1))) rfl (pv_bin rfl rfl rfl) ?_
              refine wo_val (.int .i64 (IntKind.wrap .i64 (x4 + 1))) rfl pv_assign ?_
              refine wo_nil ?_
              refine wr_is [(2, (.ptr (ix ids 1) g1 0 0)), (4, (.sl 1 (List.map rS r1))), (5, (.sl 1 (List.map rS r2))), (6, (.sl 1 (List.map rS r3))), (7, (.sl 1 (List.map rS r4))), (8, (.sl 1 (List.map rS r5))), (9, (.bool (x3 && r7.2))), (10, (.ptr (ix ids 2) g2 0 0)), (14, (.int .i64 (IntKind.wrap .i64 (x4 + 1))))] (.cons rfl (.cons rfl (.cons rfl (.cons rfl (.cons rfl (.cons rfl (.cons rfl (.cons rfl (.cons rfl .nil))))))))) ?_
              refine wb_loop ?_
              refine hW1 ((x3 && r7.2), (IntKind.wrap .i64 (x4 + 1)), (l2.set x4.toNat { a2 with Sectors := r7.1 })) _ _ ?_
              exact ⟨v7, g10, vH9, rfl, rfl⟩
            · refine wo_valg (tj := 122) (.bool r7.2) rfl (congrArg AV.bool hb3) rfl pv_move ?_
              refine wo_val (.bool r7.2) rfl (pv_pick (t := true) (congrArg AV.bool hb3) rfl) ?_
              exact wo_is [(2, (.ptr (ix ids 1) g1 0 0)), (4, (.sl 1 (List.map rS r1))), (5, (.sl 1 (List.map rS r2))), (6, (.sl 1 (List.map rS r3))), (7, (.sl 1 (List.map rS r4))), (8, (.sl 1 (List.map rS r5))), (10, (.ptr (ix ids 2) g2 0 0)), (14, (.int .i64 x4)), (124, (.bool (x3 && r7.2)))] (.cons rfl (.cons rfl (.cons rfl (.cons rfl (.cons rfl (.cons rfl (.cons rfl (.cons rfl (.cons (and_t hb3) .nil))))))))) hJ1
            · refine wo_not (tj := 122) (b := false) rfl (congrArg AV.bool hb3) rfl rfl ?_
              refine wo_val (.bool false) rfl (pv_pick (t := false) (congrArg AV.bool hb3) rfl) ?_
              exact wo_is [(2, (.ptr (ix ids 1) g1 0 0)), (4, (.sl 1 (List.map rS r1))), (5, (.sl 1 (List.map rS r2))), (6, (.sl 1 (List.map rS r3))), (7, (.sl 1 (List.map rS r4))), (8, (.sl 1 (List.map rS r5))), (10, (.ptr (ix ids 2) g2 0 0)), (14, (.int .i64 x4)), (124, (.bool (x3 && r7.2)))] (.cons rfl (.cons rfl (.cons rfl (.cons rfl (.cons rfl (.cons rfl (.cons rfl (.cons rfl (.cons (and_f hb3) .nil))))))))) hJ1
          · refine wr_exit rfl ?_
            refine wx_loop ?_
            refine wr_is [(2, (.ptr (ix ids 1) g1 0 0)), (4, (.sl 1 (List.map rS r1))), (6, (.sl 1 (List.map rS r3))), (7, (.sl 1 (List.map rS r4))), (8, (.sl 1 (List.map rS r5))), (9, (.bool x3)), (10, (.ptr (ix ids 2) g2 0 0))] (.cons rfl (.cons rfl (.cons rfl (.cons rfl (.cons rfl (.cons rfl (.cons rfl .nil))))))) ?_
            refine hJ10 (x3, l2) _ _ ?_
            exact ⟨v7, g10, vH8, rfl, rfl⟩
    · refine wr_block ?_
      refine wr_drop [none, (some (.rows g1 8 [[.emp, .emp, .emp, .emp, .emp, .emp, .emp, .emp]])), (some (.rows g2 8 [[(.sl 2 (List.map rVolume a.Volumes)), v, v1, v2, v3, (.sl 2 (List.map rAirport a.Airports)), (.sl 4 (List.map rClass a.Classes)), v4]])), (ownO v g3 5 (List.map rSector a.Sectors)), (ownO v1 g4 3 (List.map rConfig a.Configs)), (ownO v2 g5 5 (List.map rSegment a.Segments)), (ownO v3 g6 7 (List.map rRoute a.Routes)), (ownO v4 g7 8 (List.map rRule a.Rules))] hI rfl (.drop (.keep (.keep (.keep (.keep (.keep (.keep (.keep .nil)))))))) ?_
      refine wr_is [(2, (.ptr (ix ids 1) g1 0 0)), (4, (.sl 1 (List.map rS r1))), (5, (.sl 1 (List.map rS r2))), (6, (.sl 1 (List.map rS r3))), (7, (.sl 1 (List.map rS r4))), (8, (.sl 1 (List.map rS r5))), (9, (.bool true)), (10, (.ptr (ix ids 2) g2 0 0)), (11, (.int .i64 0))] (.cons rfl (.cons rfl (.cons rfl (.cons rfl (.cons rfl (.cons rfl (.cons rfl (.cons rfl (.cons rfl .nil))))))))) ?_
      refine wf_loop' (un3 fun x x1 l => ref09_Resolve_b1 r1 x x1 l) ((un2 fun x2 l1 => ref09_Resolve_j5 a r1 r2 r3 r4 r5 x2 l1) : _ → R (Airspace × Int))
        (un3 fun x x1 l => fun (fr : Nat → AV) (h : AHeap) => ∃ (v5 : AV), ∃ (g8 : Nat), OwnV v5 (ix ids 3) g8 l.length ∧ fr = frA [(2, (.ptr (ix ids 1) g1 0 0)), (4, (.sl 1 (List.map rS r1))), (5, (.sl 1 (List.map rS r2))), (6, (.sl 1 (List.map rS r3))), (7, (.sl 1 (List.map rS r4))), (8, (.sl 1 (List.map rS r5))), (9, (.bool x)), (10, (.ptr (ix ids 2) g2 0 0)), (11, (.int .i64 x1))] ∧ h = hp h0 ids [none, (some (.rows g1 8 [[.emp, .emp, .emp, .emp, .emp, .emp, .emp, .emp]])), (some (.rows g2 8 [[(.sl 2 (List.map rVolume a.Volumes)), v5, v1, v2, v3, (.sl 2 (List.map rAirport a.Airports)), (.sl 4 (List.map rClass a.Classes)), v4]])), (ownO v5 g8 5 (List.map rSector l)), (ownO v1 g4 3 (List.map rConfig a.Configs)), (ownO v2 g5 5 (List.map rSegment a.Segments)), (ownO v3 g6 7 (List.map rRoute a.Routes)), (ownO v4 g7 8 (List.map rRule a.Rules))]) (true, 0, a.Sectors) ?_ ?_
      · exact ⟨v, g3, vH, rfl, rfl⟩
      · rintro vW hW ⟨x, x1, l⟩ fr h ⟨v5, g8, vH5, rfl, rfl⟩
        refine wr_mod (m' := ref09_Resolve_b1 r1 x x1 l) rfl (wr_mod (ref09_Resolve_b1.eq_1 _ _ _ _) ?_)
        refine wr_seq ?_
        refine wr_seq ?_
        refine wr_region ?_
        refine wo_val (.int .i64 x1) rfl pv_move ?_
        refine wo_val (.ptr (ix ids 2) g2 0 1) rfl (pv_fa (fa_ptr (c := 0) (off := 1) (i := 1) ti31 rfl ti23 rfl)) ?_
        refine wo_val v5 rfl (pv_load (ld_ptr hI rfl rfl rfl ti23 rfl)) ?_
        refine wo_val (.int .i64 (l.length : Int)) rfl (pv_len (OwnV.len vH5 ti23)) ?_
        refine wo_val (.bool (decide (x1 < (l.length : Int)))) rfl (pv_bin rfl rfl rfl) ?_
        refine wo_nil ?_
        refine wf_ite rfl (fun hc1 => ?_) (fun hc1 => ?_)
        · refine wr_skip ?_
          refine wr_seq ?_
          refine wr_block ?_
          refine wr_seq ?_
          refine wr_region ?_
          refine wo_val (.sl 1 (List.map rS r1)) rfl pv_move ?_
          refine wo_val (.ptr (ix ids 2) g2 0 1) rfl (pv_fa (fa_ptr (c := 0) (off := 1) (i := 1) ti31 rfl ti23 rfl)) ?_
          refine wo_val v5 rfl (pv_load (ld_ptr hI rfl rfl rfl ti23 rfl)) ?_
          refine wo_val (.int .i64 x1) rfl pv_move ?_
          refine of_idx fun a1 hz hx1 => ?_
          refine wo_val (.ptr (ix ids 3) g8 x1.toNat 0) rfl (pv_ixa (ixa_own hI rfl vH5 rfl ti23 ti53 rfl hz hx1)) ?_
          refine wo_val (.ptr (ix ids 3) g8 x1.toNat 1) rfl (pv_fa (fa_ptr (c := 0) (off := 1) (i := 1) ti53 rfl ti38 rfl)) ?_
          refine wo_val (.sl 1 (List.map rS a1.Names)) rfl (pv_load (ld_own hI rfl vH5 rfl hx1 ti38 rfl)) ?_
          refine of_call [(.sl 1 (List.map rS r1)), (.sl 1 (List.map rS a1.Names))] rfl rfl rfl rfl ((cp_ref09_numbers r1 a1.Names) _) (fun v _ => wu_pan Try.func13 hI) fun r6 _ => ?_
          refine wo_val (.tup [(.sl 1 (List.map (rI .i64) r6.1)), (.bool r6.2)]) rfl pv_move ?_
          refine wo_val (.sl 1 (List.map (rI .i64) r6.1)) rfl (pv_ext rfl) ?_
          refine wo_val (.bool r6.2) rfl (pv_ext rfl) ?_
          refine wo_val (.sl 1 (List.map (rI .i64) r6.1)) rfl pv_assign ?_
          refine wo_val (.bool r6.2) rfl pv_assign ?_
          refine wo_nil ?_
          refine wr_seq ?_
          refine wr_region ?_
          refine wo_val (.ptr (ix ids 2) g2 0 1) rfl (pv_fa (fa_ptr (c := 0) (off := 1) (i := 1) ti31 rfl ti23 rfl)) ?_
          refine wo_val v5 rfl (pv_load (ld_ptr hI rfl rfl rfl ti23 rfl)) ?_
          refine wo_val (.int .i64 x1) rfl pv_move ?_
          refine wo_val (.sl 1 (List.map (rI .i64) r6.1)) rfl pv_move ?_
          refine wo_val (.ptr (ix ids 3) g8 x1.toNat 0) rfl (pv_ixa (ixa_own hI rfl vH5 rfl ti23 ti53 rfl hz hx1)) ?_
          refine wo_val (.ptr (ix ids 3) g8 x1.toNat 2) rfl (pv_fa (fa_ptr (c := 0) (off := 2) (i := 2) ti53 rfl ti51 rfl)) ?_
          refine wo_store (st_own (y := { a1 with Volumes := r6.1 }) hI rfl rfl vH5 rfl hx1 ti51 rfl rfl rfl rfl rfl rfl) ?_
          have vH6 := OwnV.set (i := x1.toNat) (y := { a1 with Volumes := r6.1 }) vH5
          have hx2 := List.getElem?_set_self (a := { a1 with Volumes := r6.1 }) (lt_of_get hx1)
          refine wo_nil ?_
          refine wr_hp [none, (some (.rows g1 8 [[.emp, .emp, .emp, .emp, .emp, .emp, .emp, .emp]])), (some (.rows g2 8 [[(.sl 2 (List.map rVolume a.Volumes)), v5, v1, v2, v3, (.sl 2 (List.map rAirport a.Airports)), (.sl 4 (List.map rClass a.Classes)), v4]])), (ownO v5 g8 5 (List.map rSector (l.set x1.toNat { a1 with Volumes := r6.1 }))), (ownO v1 g4 3 (List.map rConfig a.Configs)), (ownO v2 g5 5 (List.map rSegment a.Segments)), (ownO v3 g6 7 (List.map rRoute a.Routes)), (ownO v4 g7 8 (List.map rRule a.Rules))] rfl ?_
          refine wr_region ?_
          refine wo_val (.bool x) rfl pv_move ?_
          refine wo_val (.bool x) rfl pv_move ?_
          refine wo_meet 2 [(2, (.ptr (ix ids 1) g1 0 0)), (4, (.sl 1 (List.map rS r1))), (5, (.sl 1 (List.map rS r2))), (6, (.sl 1 (List.map rS r3))), (7, (.sl 1 (List.map rS r4))), (8, (.sl 1 (List.map rS r5))), (10, (.ptr (ix ids 2) g2 0 0)), (11, (.int .i64 x1)), (96, (.bool (x && r6.2)))] ?_ fun hJ => wo_cases x (fun hb1 => ?_) (fun hb1 => ?_)
          · refine wo_val (.bool (x && r6.2)) rfl pv_assign ?_
            refine wo_nil ?_
            refine wr_inBlock ?_
            refine wr_region ?_
            refine wo_val (.int .i64 x1) rfl pv_move ?_
            refine wo_val (.int .i64 (IntKind.wrap .i64 (x1 + 1))) rfl (pv_bin rfl rfl rfl) ?_
            refine wo_val (.int .i64 (IntKind.wrap .i64 (x1 + 1))) rfl pv_assign ?_
            refine wo_nil ?_
            refine wr_is [(2, (.ptr (ix ids 1) g1 0 0)), (4, (.sl 1 (List.map rS r1))), (5, (.sl 1 (List.map rS r2))), (6, (.sl 1 (List.map rS r3))), (7, (.sl 1 (List.map rS r4))), (8, (.sl 1 (List.map rS r5))), (9, (.bool (x && r6.2))), (10, (.ptr (ix ids 2) g2 0 0)), (11, (.int .i64 (IntKind.wrap .i64 (x1 + 1))))] (.cons rfl (.cons rfl (.cons rfl (.cons rfl (.cons rfl (.cons rfl (.cons rfl (.cons rfl (.cons rfl .nil))))))))) ?_
            refine wb_loop ?_
            refine hW ((x && r6.2), (IntKind.wrap .i64 (x1 + 1)), (l.set x1.toNat { a1 with Volumes := r6.1 })) _ _ ?_
            exact ⟨v5, g8, vH6, rfl, rfl⟩
          · refine wo_valg (tj := 94) (.bool r6.2) rfl (congrArg AV.bool hb1) rfl pv_move ?_
            refine wo_val (.bool r6.2) rfl (pv_pick (t := true) (congrArg AV.bool hb1) rfl) ?_
            exact wo_is [(2, (.ptr (ix ids 1) g1 0 0)), (4, (.sl 1 (List.map rS r1))), (5, (.sl 1 (List.map rS r2))), (6, (.sl 1 (List.map rS r3))), (7, (.sl 1 (List.map rS r4))), (8, (.sl 1 (List.map rS r5))), (10, (.ptr (ix ids 2) g2 0 0)), (11, (.int .i64 x1)), (96, (.bool (x && r6.2)))] (.cons rfl (.cons rfl (.cons rfl (.cons rfl (.cons rfl (.cons rfl (.cons rfl (.cons rfl (.cons (and_t hb1) .nil))))))))) hJ
          · refine wo_not (tj := 94) (b := false) rfl (congrArg AV.bool hb1) rfl rfl ?_
            refine wo_val (.bool false) rfl (pv_pick (t := false) (congrArg AV.bool hb1) rfl) ?_
            exact wo_is [(2, (.ptr (ix ids 1) g1 0 0)), (4, (.sl 1 (List.map rS r1))), (5, (.sl 1 (List.map rS r2))), (6, (.sl 1 (List.map rS r3))), (7, (.sl 1 (List.map rS r4))), (8, (.sl 1 (List.map rS r5))), (10, (.ptr (ix ids 2) g2 0 0)), (11, (.int .i64 x1)), (96, (.bool (x && r6.2)))] (.cons rfl (.cons rfl (.cons rfl (.cons rfl (.cons rfl (.cons rfl (.cons rfl (.cons rfl (.cons (and_f hb1) .nil))))))))) hJ
        · refine wr_exit rfl ?_
          refine wx_loop ?_
          refine wr_is [(2, (.ptr (ix ids 1) g1 0 0)), (4, (.sl 1 (List.map rS r1))), (5, (.sl 1 (List.map rS r2))), (6, (.sl 1 (List.map rS r3))), (7, (.sl 1 (List.map rS r4))), (8, (.sl 1 (List.map rS r5))), (9, (.bool x)), (10, (.ptr (ix ids 2) g2 0 0))] (.cons rfl (.cons rfl (.cons rfl (.cons rfl (.cons rfl (.cons rfl (.cons rfl (.cons rfl .nil)))))))) ?_
          refine hJ11 (x, l) _ _ ?_
          exact ⟨v5, g8, vH5, rfl, rfl⟩

theorem cp_law09_NamesResolveSpec (a : Airspace) : CP Try.prog 3 [(.agg (rAirspace a))] (law09_NamesResolveSpec a) (fun (x : Bool) => (AV.bool x)) := by
  refine cp_intro (n := 30) 3 Try.func3 rfl (by decide) rfl rfl fun h0 ids hI => ?_
  refine wr_in (wr_mod (law09_NamesResolveSpec.eq_1 _) ?_)
  refine wr_seq ?_
  refine wr_region ?_
  refine wo_box (v := (.agg (rAirspace a))) (j := 0) hI rfl rfl rfl rfl rfl rfl rfl fun g => ?_
  refine wo_val (.bool false) rfl pv_assign ?_
  refine wo_nil ?_
  refine wr_hp [(some (.rows g 8 [(rAirspace a)])), none, none] rfl ?_
  refine wr_seq ?_
  refine wr_seq ?_
  refine wr_region ?_
  refine of_call [] rfl rfl rfl rfl ((cp_law09_sane) _) (fun v _ => wu_pan Try.func3 hI) fun r _ => ?_
  refine wo_val (.bool (!r)) rfl (pv_un rfl) ?_
  refine wo_nil ?_
  refine wf_itebn rfl (fun hc => ?_) (fun hc => ?_)
  · refine wr_skip ?_
    refine wr_seq ?_
    refine wr_seq ?_
    refine wr_region ?_
    refine wo_val (.agg (rAirspace a)) rfl (pv_load (ld_ptr hI rfl rfl rfl ti31 rfl)) ?_
    refine of_call [(.agg (rAirspace a))] rfl rfl rfl rfl ((cp_ref09_Few a) _) (fun v _ => wu_pan Try.func3 hI) fun r1 _ => ?_
    refine wo_val (.bool (!r1)) rfl (pv_un rfl) ?_
    refine wo_nil ?_
    refine wf_itebn rfl (fun hc1 => ?_) (fun hc1 => ?_)
    · refine wr_skip ?_
      refine wr_seq ?_
      refine wr_region ?_
      refine wo_val (.agg (rAirspace a)) rfl (pv_load (ld_ptr hI rfl rfl rfl ti31 rfl)) ?_
      refine of_call [(.agg (rAirspace a))] rfl rfl rfl rfl ((cp_names_Resolve a) _) (fun v _ => wu_pan Try.func3 hI) fun r2 _ => ?_
      refine wo_val (.tup [(.agg (rAirspace r2.1)), (.int .i64 r2.2)]) rfl pv_move ?_
      refine wo_val (.agg (rAirspace r2.1)) rfl (pv_ext rfl) ?_
      refine wo_val (.int .i64 r2.2) rfl (pv_ext rfl) ?_
      refine wo_alloc (j := 1) hI rfl rfl rfl rfl ti31 rfl fun g1 => ?_
      refine wo_store (st_ptr hI rfl rfl rfl rfl ti31 rfl rfl rfl rfl rfl) ?_
      refine wo_val (.int .i64 r2.2) rfl pv_assign ?_
      refine wo_nil ?_
      refine wr_hp [(some (.rows g 8 [(rAirspace a)])), (some (.rows g1 8 [(rAirspace r2.1)])), none] rfl ?_
      refine wr_seq ?_
      refine wr_region ?_
      refine wo_val (.agg (rAirspace a)) rfl (pv_load (ld_ptr hI rfl rfl rfl ti31 rfl)) ?_
      refine of_call [(.agg (rAirspace a))] rfl rfl rfl rfl ((cp_ref09_Resolve a) _) (fun v _ => wu_pan Try.func3 hI) fun r3 _ => ?_
      refine wo_val (.tup [(.agg (rAirspace r3.1)), (.int .i64 r3.2)]) rfl pv_move ?_
      refine wo_val (.agg (rAirspace r3.1)) rfl (pv_ext rfl) ?_
      refine wo_val (.int .i64 r3.2) rfl (pv_ext rfl) ?_
      refine wo_alloc (j := 2) hI rfl rfl rfl rfl ti31 rfl fun g2 => ?_
      refine wo_store (st_ptr hI rfl rfl rfl rfl ti31 rfl rfl rfl rfl rfl) ?_
      refine wo_val (.int .i64 r3.2) rfl pv_assign ?_
      refine wo_nil ?_
      refine wr_hp [(some (.rows g 8 [(rAirspace a)])), (some (.rows g1 8 [(rAirspace r2.1)])), (some (.rows g2 8 [(rAirspace r3.1)]))] rfl ?_
      refine wr_seq ?_
      refine wr_region ?_
      refine wo_val (.agg (rAirspace r2.1)) rfl (pv_load (ld_ptr hI rfl rfl rfl ti31 rfl)) ?_
      refine wo_val (.agg (rAirspace r3.1)) rfl (pv_load (ld_ptr hI rfl rfl rfl ti31 rfl)) ?_
      refine of_call [(.agg (rAirspace r2.1)), (.agg (rAirspace r3.1))] rfl rfl rfl rfl ((cp_ref08_Same r2.1 r3.1) _) (fun v _ => wu_pan Try.func3 hI) fun r4 _ => ?_
      refine wo_val (.bool r4) rfl pv_move ?_
      refine wo_meet 4 [(29, (.bool (r4 && (r2.2 == r3.2))))] ?_ fun hJ => wo_cases r4 (fun hb1 => ?_) (fun hb1 => ?_)
      · refine wo_val (.bool (r4 && (r2.2 == r3.2))) rfl pv_assign ?_
        refine wo_nil ?_
        exact wr_ret (a := (r4 && (r2.2 == r3.2))) (vs := [(.bool (r4 && (r2.2 == r3.2)))]) Try.func3 hI rfl (.same _)
      · refine wo_valg (tj := 25) (.int .i64 r2.2) rfl (congrArg AV.bool hb1) rfl pv_move ?_
        refine wo_valg (tj := 25) (.int .i64 r3.2) rfl (congrArg AV.bool hb1) rfl pv_move ?_
        refine wo_valg (tj := 25) (.bool (r2.2 == r3.2)) rfl (congrArg AV.bool hb1) rfl (pv_bin rfl rfl rfl) ?_
        refine wo_val (.bool (r2.2 == r3.2)) rfl (pv_pick (t := true) (congrArg AV.bool hb1) rfl) ?_
        exact wo_is [(29, (.bool (r4 && (r2.2 == r3.2))))] (.cons (and_t hb1) .nil) hJ
      · refine wo_not (tj := 25) (b := false) rfl (congrArg AV.bool hb1) rfl rfl ?_
        refine wo_not (tj := 25) (b := false) rfl (congrArg AV.bool hb1) rfl rfl ?_
        refine wo_not (tj := 25) (b := false) rfl (congrArg AV.bool hb1) rfl rfl ?_
        refine wo_val (.bool false) rfl (pv_pick (t := false) (congrArg AV.bool hb1) rfl) ?_
        exact wo_is [(29, (.bool (r4 && (r2.2 == r3.2))))] (.cons (and_f hb1) .nil) hJ
    · refine wr_seq ?_
      refine wr_region ?_
      refine wo_val (.bool true) rfl pv_assign ?_
      refine wo_nil ?_
      exact wr_ret (a := true) (vs := [(.bool true)]) Try.func3 hI rfl (.same _)
  · refine wr_seq ?_
    refine wr_region ?_
    refine wo_val (.bool false) rfl pv_assign ?_
    refine wo_nil ?_
    exact wr_ret (a := false) (vs := [(.bool false)]) Try.func3 hI rfl (.same _)

theorem cp_ref09_found (n : Int) : CP Try.prog 57 [(.int .i64 n)] (ref09_found n) (fun (p : (Int × Bool)) => AV.tup [(.int .i64 p.1), (.bool p.2)]) := by
  refine cp_intro (n := 7) 0 Try.func57 rfl (by decide) rfl rfl fun h0 ids hI => ?_
  refine wr_in (wr_mod (ref09_found.eq_1 _) ?_)
  refine wr_seq ?_
  refine wr_region ?_
  refine wo_val (.int .i64 0) rfl pv_assign ?_
  refine wo_val (.bool false) rfl pv_assign ?_
  refine wo_nil ?_
  refine wr_seq ?_
  refine wr_seq ?_
  refine wr_region ?_
  refine wo_val (.int .i64 n) rfl pv_move ?_
  refine wo_val (.bool (decide (n < 0))) rfl (pv_bin rfl rfl rfl) ?_
  refine wo_nil ?_
  refine wf_ite rfl (fun hc => ?_) (fun hc => ?_)
  · refine wr_seq ?_
    refine wr_region ?_
    refine wo_val (.int .i64 0) rfl pv_assign ?_
    refine wo_val (.bool false) rfl pv_assign ?_
    refine wo_nil ?_
    exact wr_ret (a := (0, false)) (vs := [(.int .i64 0), (.bool false)]) Try.func57 hI rfl (.tupL (.cons (.same _) (.cons (.same _) .nil)))
  · refine wr_skip ?_
    refine wr_seq ?_
    refine wr_region ?_
    refine wo_val (.int .i64 n) rfl pv_move ?_
    refine wo_val (.int .i64 n) rfl pv_assign ?_
    refine wo_val (.bool true) rfl pv_assign ?_
    refine wo_nil ?_
    exact wr_ret (a := (n, true)) (vs := [(.int .i64 n), (.bool true)]) Try.func57 hI rfl (.tupL (.cons (.same _) (.cons (.same _) .nil)))
end Go.Am

/- The models hold of the program. Written by dc.py. -/
import Derived.Test.YtjpafocobkhciaaNmW1
namespace Go.Am
open Go Go.Proofs
set_option maxRecDepth 100000
set_option linter.unusedSimpArgs false
set_option linter.unusedVariables false
theorem cp_ref09_Few (a : Airspace) : CP Try.prog 11 [(.agg (rAirspace a))] (ref09_Few a) (fun (x : Bool) => (AV.bool x)) := by
  refine cp_intro (n := 107) 1 Try.func11 rfl (by decide) rfl rfl fun h0 ids hI => ?_
  refine wr_in (wr_mod (ref09_Few.eq_1 _) ?_)
  refine wr_seq ?_
  refine wr_region ?_
  refine wo_box (v := (.agg (rAirspace a))) (j := 0) hI rfl rfl rfl rfl rfl rfl rfl fun g => ?_
  refine wo_val (.bool false) rfl pv_assign ?_
  refine wo_nil ?_
  refine wr_hp [(some (.rows g 8 [(rAirspace a)]))] rfl ?_
  refine wr_seq ?_
  refine wr_region ?_
  refine wo_val (.ptr (ix ids 0) g 0 0) rfl (pv_fa (fa_ptr (c := 0) (off := 0) (i := 0) ti31 rfl ti22 rfl)) ?_
  refine wo_val (.sl 2 (List.map rVolume a.Volumes)) rfl (pv_load (ld_ptr hI rfl rfl rfl ti22 rfl)) ?_
  refine wo_val (.int .i64 (a.Volumes.length : Int)) rfl (pv_len (len_sl ti22)) ?_
  refine wo_val (.ptr (ix ids 0) g 0 1) rfl (pv_fa (fa_ptr (c := 0) (off := 1) (i := 1) ti31 rfl ti23 rfl)) ?_
  refine wo_val (.sl 5 (List.map rSector a.Sectors)) rfl (pv_load (ld_ptr hI rfl rfl rfl ti23 rfl)) ?_
  refine wo_val (.int .i64 (a.Sectors.length : Int)) rfl (pv_len (len_sl ti23)) ?_
  refine wo_val (.int .i64 (IntKind.wrap .i64 ((a.Volumes.length : Int) + (a.Sectors.length : Int)))) rfl (pv_bin rfl rfl rfl) ?_
  refine wo_val (.ptr (ix ids 0) g 0 2) rfl (pv_fa (fa_ptr (c := 0) (off := 2) (i := 2) ti31 rfl ti24 rfl)) ?_
  refine wo_val (.sl 3 (List.map rConfig a.Configs)) rfl (pv_load (ld_ptr hI rfl rfl rfl ti24 rfl)) ?_
  refine wo_val (.int .i64 (a.Configs.length : Int)) rfl (pv_len (len_sl ti24)) ?_
  refine wo_val (.int .i64 (IntKind.wrap .i64 ((IntKind.wrap .i64 ((a.Volumes.length : Int) + (a.Sectors.length : Int))) + (a.Configs.length : Int)))) rfl (pv_bin rfl rfl rfl) ?_
  refine wo_val (.ptr (ix ids 0) g 0 3) rfl (pv_fa (fa_ptr (c := 0) (off := 3) (i := 3) ti31 rfl ti25 rfl)) ?_
  refine wo_val (.sl 5 (List.map rSegment a.Segments)) rfl (pv_load (ld_ptr hI rfl rfl rfl ti25 rfl)) ?_
  refine wo_val (.int .i64 (a.Segments.length : Int)) rfl (pv_len (len_sl ti25)) ?_
  refine wo_val (.int .i64 (IntKind.wrap .i64 ((IntKind.wrap .i64 ((IntKind.wrap .i64 ((a.Volumes.length : Int) + (a.Sectors.length : Int))) + (a.Configs.length : Int))) + (a.Segments.length : Int)))) rfl (pv_bin rfl rfl rfl) ?_
  refine wo_val (.ptr (ix ids 0) g 0 4) rfl (pv_fa (fa_ptr (c := 0) (off := 4) (i := 4) ti31 rfl ti26 rfl)) ?_
  refine wo_val (.sl 7 (List.map rRoute a.Routes)) rfl (pv_load (ld_ptr hI rfl rfl rfl ti26 rfl)) ?_
  refine wo_val (.int .i64 (a.Routes.length : Int)) rfl (pv_len (len_sl ti26)) ?_
  refine wo_val (.int .i64 (IntKind.wrap .i64 ((IntKind.wrap .i64 ((IntKind.wrap .i64 ((IntKind.wrap .i64 ((a.Volumes.length : Int) + (a.Sectors.length : Int))) + (a.Configs.length : Int))) + (a.Segments.length : Int))) + (a.Routes.length : Int)))) rfl (pv_bin rfl rfl rfl) ?_
  refine wo_val (.ptr (ix ids 0) g 0 5) rfl (pv_fa (fa_ptr (c := 0) (off := 5) (i := 5) ti31 rfl ti27 rfl)) ?_
  refine wo_val (.sl 2 (List.map rAirport a.Airports)) rfl (pv_load (ld_ptr hI rfl rfl rfl ti27 rfl)) ?_
  refine wo_val (.int .i64 (a.Airports.length : Int)) rfl (pv_len (len_sl ti27)) ?_
  refine wo_val (.int .i64 (IntKind.wrap .i64 ((IntKind.wrap .i64 ((IntKind.wrap .i64 ((IntKind.wrap .i64 ((IntKind.wrap .i64 ((a.Volumes.length : Int) + (a.Sectors.length : Int))) + (a.Configs.length : Int))) + (a.Segments.length : Int))) + (a.Routes.length : Int))) + (a.Airports.length : Int)))) rfl (pv_bin rfl rfl rfl) ?_
  refine wo_val (.ptr (ix ids 0) g 0 6) rfl (pv_fa (fa_ptr (c := 0) (off := 6) (i := 6) ti31 rfl ti28 rfl)) ?_
  refine wo_val (.sl 4 (List.map rClass a.Classes)) rfl (pv_load (ld_ptr hI rfl rfl rfl ti28 rfl)) ?_
  refine wo_val (.int .i64 (a.Classes.length : Int)) rfl (pv_len (len_sl ti28)) ?_
  refine wo_val (.int .i64 (IntKind.wrap .i64 ((IntKind.wrap .i64 ((IntKind.wrap .i64 ((IntKind.wrap .i64 ((IntKind.wrap .i64 ((IntKind.wrap .i64 ((a.Volumes.length : Int) + (a.Sectors.length : Int))) + (a.Configs.length : Int))) + (a.Segments.length : Int))) + (a.Routes.length : Int))) + (a.Airports.length : Int))) + (a.Classes.length : Int)))) rfl (pv_bin rfl rfl rfl) ?_
  refine wo_val (.ptr (ix ids 0) g 0 7) rfl (pv_fa (fa_ptr (c := 0) (off := 7) (i := 7) ti31 rfl ti29 rfl)) ?_
  refine wo_val (.sl 8 (List.map rRule a.Rules)) rfl (pv_load (ld_ptr hI rfl rfl rfl ti29 rfl)) ?_
  refine wo_val (.int .i64 (a.Rules.length : Int)) rfl (pv_len (len_sl ti29)) ?_
  refine wo_val (.int .i64 (IntKind.wrap .i64 ((IntKind.wrap .i64 ((IntKind.wrap .i64 ((IntKind.wrap .i64 ((IntKind.wrap .i64 ((IntKind.wrap .i64 ((IntKind.wrap .i64 ((a.Volumes.length : Int) + (a.Sectors.length : Int))) + (a.Configs.length : Int))) + (a.Segments.length : Int))) + (a.Routes.length : Int))) + (a.Airports.length : Int))) + (a.Classes.length : Int))) + (a.Rules.length : Int)))) rfl (pv_bin rfl rfl rfl) ?_
  refine wo_val (.int .i64 (IntKind.wrap .i64 ((IntKind.wrap .i64 ((IntKind.wrap .i64 ((IntKind.wrap .i64 ((IntKind.wrap .i64 ((IntKind.wrap .i64 ((IntKind.wrap .i64 ((a.Volumes.length : Int) + (a.Sectors.length : Int))) + (a.Configs.length : Int))) + (a.Segments.length : Int))) + (a.Routes.length : Int))) + (a.Airports.length : Int))) + (a.Classes.length : Int))) + (a.Rules.length : Int)))) rfl pv_assign ?_
  refine wo_nil ?_
  refine wr_seq ?_
  refine wr_seq ?_
  refine wr_region ?_
  refine wo_val (.int .i64 (IntKind.wrap .i64 ((IntKind.wrap .i64 ((IntKind.wrap .i64 ((IntKind.wrap .i64 ((IntKind.wrap .i64 ((IntKind.wrap .i64 ((IntKind.wrap .i64 ((a.Volumes.length : Int) + (a.Sectors.length : Int))) + (a.Configs.length : Int))) + (a.Segments.length : Int))) + (a.Routes.length : Int))) + (a.Airports.length : Int))) + (a.Classes.length : Int))) + (a.Rules.length : Int)))) rfl pv_move ?_
  refine wo_val (.bool (decide ((IntKind.wrap .i64 ((IntKind.wrap .i64 ((IntKind.wrap .i64 ((IntKind.wrap .i64 ((IntKind.wrap .i64 ((IntKind.wrap .i64 ((IntKind.wrap .i64 ((a.Volumes.length : Int) + (a.Sectors.length : Int))) + (a.Configs.length : Int))) + (a.Segments.length : Int))) + (a.Routes.length : Int))) + (a.Airports.length : Int))) + (a.Classes.length : Int))) + (a.Rules.length : Int))) > 80))) rfl (pv_bin rfl rfl rfl) ?_
  refine wo_nil ?_
  refine wf_ite rfl (fun hc => ?_) (fun hc => ?_)
  · refine wr_seq ?_
    refine wr_region ?_
    refine wo_val (.bool false) rfl pv_assign ?_
    refine wo_nil ?_
    exact wr_ret (a := false) (vs := [(.bool false)]) Try.func11 hI rfl (.same _)
  · refine wr_skip ?_
    refine wr_seq ?_
    refine wr_seq ?_
    refine wr_region ?_
    refine wo_val (.int .i64 0) rfl pv_assign ?_
    refine wo_nil ?_
    refine wr_block ?_
    refine wr_lim (t := 12) (L := a.Sectors) rfl fun hlim => ?_
    refine wr_is [(1, (.ptr (ix ids 0) g 0 0)), (3, (.int .i64 (IntKind.wrap .i64 ((IntKind.wrap .i64 ((IntKind.wrap .i64 ((IntKind.wrap .i64 ((IntKind.wrap .i64 ((IntKind.wrap .i64 ((IntKind.wrap .i64 ((a.Volumes.length : Int) + (a.Sectors.length : Int))) + (a.Configs.length : Int))) + (a.Segments.length : Int))) + (a.Routes.length : Int))) + (a.Airports.length : Int))) + (a.Classes.length : Int))) + (a.Rules.length : Int))))), (4, (.int .i64 0))] (.cons rfl (.cons rfl (.cons rfl .nil))) ?_
    refine wf_eachS' a.Sectors (fun _ a1 => fun n => ref09_Few_b1 a1 n) (((fun n => (eachS (fun _ a2 => fun n1 => ref09_Few_b2 a2 n1) 0 a.Configs n).bind ((fun n1 => (eachS (fun _ a3 => fun n2 => ref09_Few_b3 a3 n2) 0 a.Routes n1).bind ((fun n2 => (eachS (fun _ a4 => fun n3 => ref09_Few_b4 a4 n3) 0 a.Airports n2).bind ((fun n3 => .ok (decide (n3 ≤ 300)))))))))) : _ → R Bool)
      (fun j => fun n => fun (fr : Nat → AV) (h : AHeap) => fr = frA [(1, (.ptr (ix ids 0) g 0 0)), (3, (.int .i64 n)), (4, (.int .i64 (j : Int)))] ∧ h = hp h0 ids [(some (.rows g 8 [(rAirspace a)]))]) (IntKind.wrap .i64 ((IntKind.wrap .i64 ((IntKind.wrap .i64 ((IntKind.wrap .i64 ((IntKind.wrap .i64 ((IntKind.wrap .i64 ((IntKind.wrap .i64 ((a.Volumes.length : Int) + (a.Sectors.length : Int))) + (a.Configs.length : Int))) + (a.Segments.length : Int))) + (a.Routes.length : Int))) + (a.Airports.length : Int))) + (a.Classes.length : Int))) + (a.Rules.length : Int))) ?_ ?_ ?_
    · exact ⟨rfl, rfl⟩
    · rintro j a1 ha1 W hW n fr h ⟨rfl, rfl⟩
      refine wr_mod (m' := ref09_Few_b1 a1 n) rfl (wr_mod (ref09_Few_b1.eq_1 _ _) ?_)
      refine wr_seq ?_
      refine wr_seq ?_
      refine wr_region ?_
      refine wo_val (.int .i64 (j : Int)) rfl pv_move ?_
      refine wo_val (.ptr (ix ids 0) g 0 1) rfl (pv_fa (fa_ptr (c := 0) (off := 1) (i := 1) ti31 rfl ti23 rfl)) ?_
      refine wo_val (.sl 5 (List.map rSector a.Sectors)) rfl (pv_load (ld_ptr hI rfl rfl rfl ti23 rfl)) ?_
      refine wo_val (.int .i64 (a.Sectors.length : Int)) rfl (pv_len (len_sl ti23)) ?_
      refine wo_val (.bool (decide ((j : Int) < (a.Sectors.length : Int)))) rfl (pv_bin rfl rfl rfl) ?_
      refine wo_nil ?_
      refine wr_condT rfl (Int.ofNat_lt.2 (lt_of_get ha1)) ?_
      refine wr_skip ?_
      refine wr_seq ?_
      refine wr_block ?_
      refine wr_region ?_
      refine wo_val (.int .i64 n) rfl pv_move ?_
      refine wo_val (.ptr (ix ids 0) g 0 1) rfl (pv_fa (fa_ptr (c := 0) (off := 1) (i := 1) ti31 rfl ti23 rfl)) ?_
      refine wo_val (.sl 5 (List.map rSector a.Sectors)) rfl (pv_load (ld_ptr hI rfl rfl rfl ti23 rfl)) ?_
      refine wo_val (.int .i64 (j : Int)) rfl pv_move ?_
      refine wo_val (.cp (rSector a1) 0) rfl (pv_ixa (ixa_nat ti23 ti53 rfl ha1)) ?_
      refine wo_val (.cp (rSector a1) 1) rfl (pv_fa (fa_cp (c := 0) (off := 1) (i := 1) ti53 rfl ti38 rfl)) ?_
      refine wo_val (.sl 1 (List.map rS a1.Names)) rfl (pv_load (ld_cp ti38 rfl)) ?_
      refine wo_val (.int .i64 (a1.Names.length : Int)) rfl (pv_len (len_sl ti38)) ?_
      refine wo_val (.int .i64 (IntKind.wrap .i64 (n + (a1.Names.length : Int)))) rfl (pv_bin rfl rfl rfl) ?_
      refine wo_val (.int .i64 (IntKind.wrap .i64 (n + (a1.Names.length : Int)))) rfl pv_assign ?_
      refine wo_nil ?_
      refine wr_inBlock ?_
      refine wr_region ?_
      refine wo_val (.int .i64 (j : Int)) rfl pv_move ?_
      refine wo_val (.int .i64 (IntKind.wrap .i64 ((j : Int) + 1))) rfl (pv_bin rfl rfl rfl) ?_
      refine wo_val (.int .i64 (IntKind.wrap .i64 ((j : Int) + 1))) rfl pv_assign ?_
      refine wo_nil ?_
      refine wr_is [(1, (.ptr (ix ids 0) g 0 0)), (3, (.int .i64 (IntKind.wrap .i64 (n + (a1.Names.length : Int))))), (4, (.int .i64 ((j + 1 : Nat) : Int)))] (.cons rfl (.cons rfl (.cons (inc_ok (lt_of_get ha1) hlim) .nil))) ?_
      refine wb_S ?_
      refine hW (IntKind.wrap .i64 (n + (a1.Names.length : Int))) _ _ ?_
      exact ⟨rfl, rfl⟩
    · rintro n fr h ⟨rfl, rfl⟩
      refine wr_seq ?_
      refine wr_seq ?_
      refine wr_region ?_
      refine wo_val (.int .i64 (a.Sectors.length : Int)) rfl pv_move ?_
      refine wo_val (.ptr (ix ids 0) g 0 1) rfl (pv_fa (fa_ptr (c := 0) (off := 1) (i := 1) ti31 rfl ti23 rfl)) ?_
      refine wo_val (.sl 5 (List.map rSector a.Sectors)) rfl (pv_load (ld_ptr hI rfl rfl rfl ti23 rfl)) ?_
      refine wo_val (.int .i64 (a.Sectors.length : Int)) rfl (pv_len (len_sl ti23)) ?_
      refine wo_val (.bool (decide ((a.Sectors.length : Int) < (a.Sectors.length : Int)))) rfl (pv_bin rfl rfl rfl) ?_
      refine wo_nil ?_
      refine wr_condF rfl (Int.lt_irrefl _) ?_
      refine wr_exit rfl ?_
      refine wr_seq ?_
      refine wr_seq ?_
      refine wr_region ?_
      refine wo_val (.int .i64 0) rfl pv_assign ?_
      refine wo_nil ?_
      refine wr_block ?_
      refine wr_is [(1, (.ptr (ix ids 0) g 0 0)), (3, (.int .i64 n)), (5, (.int .i64 0))] (.cons rfl (.cons rfl (.cons rfl .nil))) ?_
      refine wf_eachS' a.Configs (fun _ a2 => fun n1 => ref09_Few_b2 a2 n1) (((fun n1 => (eachS (fun _ a3 => fun n2 => ref09_Few_b3 a3 n2) 0 a.Routes n1).bind ((fun n2 => (eachS (fun _ a4 => fun n3 => ref09_Few_b4 a4 n3) 0 a.Airports n2).bind ((fun n3 => .ok (decide (n3 ≤ 300)))))))) : _ → R Bool)
        (fun j1 => fun n1 => fun (fr : Nat → AV) (h : AHeap) => fr = frA [(1, (.ptr (ix ids 0) g 0 0)), (3, (.int .i64 n1)), (5, (.int .i64 (j1 : Int)))] ∧ h = hp h0 ids [(some (.rows g 8 [(rAirspace a)]))]) n ?_ ?_ ?_
      · exact ⟨rfl, rfl⟩
      · rintro j1 a2 ha2 W hW1 n1 fr h ⟨rfl, rfl⟩
        refine wr_mod (m' := ref09_Few_b2 a2 n1) rfl (wr_mod (ref09_Few_b2.eq_1 _ _) ?_)
        refine wr_seq ?_
        refine wr_seq ?_
        refine wr_region ?_
        refine wo_val (.int .i64 (j1 : Int)) rfl pv_move ?_
        refine wo_val (.ptr (ix ids 0) g 0 2) rfl (pv_fa (fa_ptr (c := 0) (off := 2) (i := 2) ti31 rfl ti24 rfl)) ?_
        refine wo_val (.sl 3 (List.map rConfig a.Configs)) rfl (pv_load (ld_ptr hI rfl rfl rfl ti24 rfl)) ?_
        refine wo_val (.int .i64 (a.Configs.length : Int)) rfl (pv_len (len_sl ti24)) ?_
        refine wo_val (.bool (decide ((j1 : Int) < (a.Configs.length : Int)))) rfl (pv_bin rfl rfl rfl) ?_
        refine wo_nil ?_
        refine wr_lim (t := 59) (L := a.Configs) rfl fun hlim2 => ?_
        refine wr_condT rfl (Int.ofNat_lt.2 (lt_of_get ha2)) ?_
        refine wr_skip ?_
        refine wr_seq ?_
        refine wr_block ?_
        refine wr_region ?_
        refine wo_val (.int .i64 n1) rfl pv_move ?_
        refine wo_val (.ptr (ix ids 0) g 0 2) rfl (pv_fa (fa_ptr (c := 0) (off := 2) (i := 2) ti31 rfl ti24 rfl)) ?_
        refine wo_val (.sl 3 (List.map rConfig a.Configs)) rfl (pv_load (ld_ptr hI rfl rfl rfl ti24 rfl)) ?_
        refine wo_val (.int .i64 (j1 : Int)) rfl pv_move ?_
        refine wo_val (.cp (rConfig a2) 0) rfl (pv_ixa (ixa_nat ti24 ti55 rfl ha2)) ?_
        refine wo_val (.cp (rConfig a2) 1) rfl (pv_fa (fa_cp (c := 0) (off := 1) (i := 1) ti55 rfl ti38 rfl)) ?_
        refine wo_val (.sl 1 (List.map rS a2.Names)) rfl (pv_load (ld_cp ti38 rfl)) ?_
        refine wo_val (.int .i64 (a2.Names.length : Int)) rfl (pv_len (len_sl ti38)) ?_
        refine wo_val (.int .i64 (IntKind.wrap .i64 (n1 + (a2.Names.length : Int)))) rfl (pv_bin rfl rfl rfl) ?_
        refine wo_val (.int .i64 (IntKind.wrap .i64 (n1 + (a2.Names.length : Int)))) rfl pv_assign ?_
        refine wo_nil ?_
        refine wr_inBlock ?_
        refine wr_region ?_
        refine wo_val (.int .i64 (j1 : Int)) rfl pv_move ?_
        refine wo_val (.int .i64 (IntKind.wrap .i64 ((j1 : Int) + 1))) rfl (pv_bin rfl rfl rfl) ?_
        refine wo_val (.int .i64 (IntKind.wrap .i64 ((j1 : Int) + 1))) rfl pv_assign ?_
        refine wo_nil ?_
        refine wr_is [(1, (.ptr (ix ids 0) g 0 0)), (3, (.int .i64 (IntKind.wrap .i64 (n1 + (a2.Names.length : Int))))), (5, (.int .i64 ((j1 + 1 : Nat) : Int)))] (.cons rfl (.cons rfl (.cons (inc_ok (lt_of_get ha2) hlim2) .nil))) ?_
        refine wb_S ?_
        refine hW1 (IntKind.wrap .i64 (n1 + (a2.Names.length : Int))) _ _ ?_
        exact ⟨rfl, rfl⟩
      · rintro n1 fr h ⟨rfl, rfl⟩
        refine wr_seq ?_
        refine wr_seq ?_
        refine wr_region ?_
        refine wo_val (.int .i64 (a.Configs.length : Int)) rfl pv_move ?_
        refine wo_val (.ptr (ix ids 0) g 0 2) rfl (pv_fa (fa_ptr (c := 0) (off := 2) (i := 2) ti31 rfl ti24 rfl)) ?_
        refine wo_val (.sl 3 (List.map rConfig a.Configs)) rfl (pv_load (ld_ptr hI rfl rfl rfl ti24 rfl)) ?_
        refine wo_val (.int .i64 (a.Configs.length : Int)) rfl (pv_len (len_sl ti24)) ?_
        refine wo_val (.bool (decide ((a.Configs.length : Int) < (a.Configs.length : Int)))) rfl (pv_bin rfl rfl rfl) ?_
        refine wo_nil ?_
        refine wr_condF rfl (Int.lt_irrefl _) ?_
        refine wr_exit rfl ?_
        refine wr_seq ?_
        refine wr_seq ?_
        refine wr_region ?_
        refine wo_val (.int .i64 0) rfl pv_assign ?_
        refine wo_nil ?_
        refine wr_block ?_
        refine wr_is [(1, (.ptr (ix ids 0) g 0 0)), (3, (.int .i64 n1)), (6, (.int .i64 0))] (.cons rfl (.cons rfl (.cons rfl .nil))) ?_
        refine wf_eachS' a.Routes (fun _ a3 => fun n2 => ref09_Few_b3 a3 n2) (((fun n2 => (eachS (fun _ a4 => fun n3 => ref09_Few_b4 a4 n3) 0 a.Airports n2).bind ((fun n3 => .ok (decide (n3 ≤ 300)))))) : _ → R Bool)
          (fun j2 => fun n2 => fun (fr : Nat → AV) (h : AHeap) => fr = frA [(1, (.ptr (ix ids 0) g 0 0)), (3, (.int .i64 n2)), (6, (.int .i64 (j2 : Int)))] ∧ h = hp h0 ids [(some (.rows g 8 [(rAirspace a)]))]) n1 ?_ ?_ ?_
        · exact ⟨rfl, rfl⟩
        · rintro j2 a3 ha3 W hW2 n2 fr h ⟨rfl, rfl⟩
          refine wr_mod (m' := ref09_Few_b3 a3 n2) rfl (wr_mod (ref09_Few_b3.eq_1 _ _) ?_)
          refine wr_seq ?_
          refine wr_seq ?_
          refine wr_region ?_
          refine wo_val (.int .i64 (j2 : Int)) rfl pv_move ?_
          refine wo_val (.ptr (ix ids 0) g 0 4) rfl (pv_fa (fa_ptr (c := 0) (off := 4) (i := 4) ti31 rfl ti26 rfl)) ?_
          refine wo_val (.sl 7 (List.map rRoute a.Routes)) rfl (pv_load (ld_ptr hI rfl rfl rfl ti26 rfl)) ?_
          refine wo_val (.int .i64 (a.Routes.length : Int)) rfl (pv_len (len_sl ti26)) ?_
          refine wo_val (.bool (decide ((j2 : Int) < (a.Routes.length : Int)))) rfl (pv_bin rfl rfl rfl) ?_
          refine wo_nil ?_
          refine wr_lim (t := 75) (L := a.Routes) rfl fun hlim4 => ?_
          refine wr_condT rfl (Int.ofNat_lt.2 (lt_of_get ha3)) ?_
          refine wr_skip ?_
          refine wr_seq ?_
          refine wr_block ?_
          refine wr_region ?_
          refine wo_val (.int .i64 n2) rfl pv_move ?_
          refine wo_val (.ptr (ix ids 0) g 0 4) rfl (pv_fa (fa_ptr (c := 0) (off := 4) (i := 4) ti31 rfl ti26 rfl)) ?_
          refine wo_val (.sl 7 (List.map rRoute a.Routes)) rfl (pv_load (ld_ptr hI rfl rfl rfl ti26 rfl)) ?_
          refine wo_val (.int .i64 (j2 : Int)) rfl pv_move ?_
          refine wo_val (.cp (rRoute a3) 0) rfl (pv_ixa (ixa_nat ti26 ti59 rfl ha3)) ?_
          refine wo_val (.cp (rRoute a3) 5) rfl (pv_fa (fa_cp (c := 0) (off := 5) (i := 5) ti59 rfl ti38 rfl)) ?_
          refine wo_val (.sl 1 (List.map rS a3.Names)) rfl (pv_load (ld_cp ti38 rfl)) ?_
          refine wo_val (.int .i64 (a3.Names.length : Int)) rfl (pv_len (len_sl ti38)) ?_
          refine wo_val (.int .i64 (IntKind.wrap .i64 (n2 + (a3.Names.length : Int)))) rfl (pv_bin rfl rfl rfl) ?_
          refine wo_val (.int .i64 (IntKind.wrap .i64 (n2 + (a3.Names.length : Int)))) rfl pv_assign ?_
          refine wo_nil ?_
          refine wr_inBlock ?_
          refine wr_region ?_
          refine wo_val (.int .i64 (j2 : Int)) rfl pv_move ?_
          refine wo_val (.int .i64 (IntKind.wrap .i64 ((j2 : Int) + 1))) rfl (pv_bin rfl rfl rfl) ?_
          refine wo_val (.int .i64 (IntKind.wrap .i64 ((j2 : Int) + 1))) rfl pv_assign ?_
          refine wo_nil ?_
          refine wr_is [(1, (.ptr (ix ids 0) g 0 0)), (3, (.int .i64 (IntKind.wrap .i64 (n2 + (a3.Names.length : Int))))), (6, (.int .i64 ((j2 + 1 : Nat) : Int)))] (.cons rfl (.cons rfl (.cons (inc_ok (lt_of_get ha3) hlim4) .nil))) ?_
          refine wb_S ?_
          refine hW2 (IntKind.wrap .i64 (n2 + (a3.Names.length : Int))) _ _ ?_
          exact ⟨rfl, rfl⟩
        · rintro n2 fr h ⟨rfl, rfl⟩
          refine wr_seq ?_
          refine wr_seq ?_
          refine wr_region ?_
          refine wo_val (.int .i64 (a.Routes.length : Int)) rfl pv_move ?_
          refine wo_val (.ptr (ix ids 0) g 0 4) rfl (pv_fa (fa_ptr (c := 0) (off := 4) (i := 4) ti31 rfl ti26 rfl)) ?_
          refine wo_val (.sl 7 (List.map rRoute a.Routes)) rfl (pv_load (ld_ptr hI rfl rfl rfl ti26 rfl)) ?_
          refine wo_val (.int .i64 (a.Routes.length : Int)) rfl (pv_len (len_sl ti26)) ?_
          refine wo_val (.bool (decide ((a.Routes.length : Int) < (a.Routes.length : Int)))) rfl (pv_bin rfl rfl rfl) ?_
          refine wo_nil ?_
          refine wr_condF rfl (Int.lt_irrefl _) ?_
          refine wr_exit rfl ?_
          refine wr_seq ?_
          refine wr_seq ?_
          refine wr_region ?_
          refine wo_val (.int .i64 0) rfl pv_assign ?_
          refine wo_nil ?_
          refine wr_block ?_
          refine wr_is [(1, (.ptr (ix ids 0) g 0 0)), (3, (.int .i64 n2)), (7, (.int .i64 0))] (.cons rfl (.cons rfl (.cons rfl .nil))) ?_
          refine wf_eachS' a.Airports (fun _ a4 => fun n3 => ref09_Few_b4 a4 n3) (((fun n3 => .ok (decide (n3 ≤ 300)))) : _ → R Bool)
            (fun j3 => fun n3 => fun (fr : Nat → AV) (h : AHeap) => fr = frA [(1, (.ptr (ix ids 0) g 0 0)), (3, (.int .i64 n3)), (7, (.int .i64 (j3 : Int)))] ∧ h = hp h0 ids [(some (.rows g 8 [(rAirspace a)]))]) n2 ?_ ?_ ?_
          · exact ⟨rfl, rfl⟩
          · rintro j3 a4 ha4 W hW3 n3 fr h ⟨rfl, rfl⟩
            refine wr_mod (m' := ref09_Few_b4 a4 n3) rfl (wr_mod (ref09_Few_b4.eq_1 _ _) ?_)
            refine wr_seq ?_
            refine wr_seq ?_
            refine wr_region ?_
            refine wo_val (.int .i64 (j3 : Int)) rfl pv_move ?_
            refine wo_val (.ptr (ix ids 0) g 0 5) rfl (pv_fa (fa_ptr (c := 0) (off := 5) (i := 5) ti31 rfl ti27 rfl)) ?_
            refine wo_val (.sl 2 (List.map rAirport a.Airports)) rfl (pv_load (ld_ptr hI rfl rfl rfl ti27 rfl)) ?_
            refine wo_val (.int .i64 (a.Airports.length : Int)) rfl (pv_len (len_sl ti27)) ?_
            refine wo_val (.bool (decide ((j3 : Int) < (a.Airports.length : Int)))) rfl (pv_bin rfl rfl rfl) ?_
            refine wo_nil ?_
            refine wr_lim (t := 91) (L := a.Airports) rfl fun hlim6 => ?_
            refine wr_condT rfl (Int.ofNat_lt.2 (lt_of_get ha4)) ?_
            refine wr_skip ?_
            refine wr_seq ?_
            refine wr_block ?_
            refine wr_region ?_
            refine wo_val (.int .i64 n3) rfl pv_move ?_
            refine wo_val (.ptr (ix ids 0) g 0 5) rfl (pv_fa (fa_ptr (c := 0) (off := 5) (i := 5) ti31 rfl ti27 rfl)) ?_
            refine wo_val (.sl 2 (List.map rAirport a.Airports)) rfl (pv_load (ld_ptr hI rfl rfl rfl ti27 rfl)) ?_
            refine wo_val (.int .i64 (j3 : Int)) rfl pv_move ?_
            refine wo_val (.cp (rAirport a4) 0) rfl (pv_ixa (ixa_nat ti27 ti46 rfl ha4)) ?_
            refine wo_val (.cp (rAirport a4) 1) rfl (pv_fa (fa_cp (c := 0) (off := 1) (i := 1) ti46 rfl ti44 rfl)) ?_
            refine wo_val (.sl 2 (List.map rMode a4.Modes)) rfl (pv_load (ld_cp ti44 rfl)) ?_
            refine wo_val (.int .i64 (a4.Modes.length : Int)) rfl (pv_len (len_sl ti44)) ?_
            refine wo_val (.int .i64 (IntKind.wrap .i64 (n3 + (a4.Modes.length : Int)))) rfl (pv_bin rfl rfl rfl) ?_
            refine wo_val (.int .i64 (IntKind.wrap .i64 (n3 + (a4.Modes.length : Int)))) rfl pv_assign ?_
            refine wo_nil ?_
            refine wr_inBlock ?_
            refine wr_region ?_
            refine wo_val (.int .i64 (j3 : Int)) rfl pv_move ?_
            refine wo_val (.int .i64 (IntKind.wrap .i64 ((j3 : Int) + 1))) rfl (pv_bin rfl rfl rfl) ?_
            refine wo_val (.int .i64 (IntKind.wrap .i64 ((j3 : Int) + 1))) rfl pv_assign ?_
            refine wo_nil ?_
            refine wr_is [(1, (.ptr (ix ids 0) g 0 0)), (3, (.int .i64 (IntKind.wrap .i64 (n3 + (a4.Modes.length : Int))))), (7, (.int .i64 ((j3 + 1 : Nat) : Int)))] (.cons rfl (.cons rfl (.cons (inc_ok (lt_of_get ha4) hlim6) .nil))) ?_
            refine wb_S ?_
            refine hW3 (IntKind.wrap .i64 (n3 + (a4.Modes.length : Int))) _ _ ?_
            exact ⟨rfl, rfl⟩
          · rintro n3 fr h ⟨rfl, rfl⟩
            refine wr_seq ?_
            refine wr_seq ?_
            refine wr_region ?_
            refine wo_val (.int .i64 (a.Airports.length : Int)) rfl pv_move ?_
            refine wo_val (.ptr (ix ids 0) g 0 5) rfl (pv_fa (fa_ptr (c := 0) (off := 5) (i := 5) ti31 rfl ti27 rfl)) ?_
            refine wo_val (.sl 2 (List.map rAirport a.Airports)) rfl (pv_load (ld_ptr hI rfl rfl rfl ti27 rfl)) ?_
            refine wo_val (.int .i64 (a.Airports.length : Int)) rfl (pv_len (len_sl ti27)) ?_
            refine wo_val (.bool (decide ((a.Airports.length : Int) < (a.Airports.length : Int)))) rfl (pv_bin rfl rfl rfl) ?_
            refine wo_nil ?_
            refine wr_condF rfl (Int.lt_irrefl _) ?_
            refine wr_exit rfl ?_
            refine wr_seq ?_
            refine wr_region ?_
            refine wo_val (.int .i64 n3) rfl pv_move ?_
            refine wo_val (.bool (decide (n3 ≤ 300))) rfl (pv_bin rfl rfl rfl) ?_
            refine wo_val (.bool (decide (n3 ≤ 300))) rfl pv_assign ?_
            refine wo_nil ?_
            exact wr_ret (a := (decide (n3 ≤ 300))) (vs := [(.bool (decide (n3 ≤ 300)))]) Try.func11 hI rfl (.same _)

theorem cp_ref08_Unnumbered (a : Airspace) : CP Try.prog 21 [(.agg (rAirspace a))] (ref08_Unnumbered a) (fun (x : Airspace) => (AV.agg (rAirspace x))) := by
  refine cp_intro (n := 120) 13 Try.func21 rfl (by decide) rfl rfl fun h0 ids hI => ?_
  refine wr_in (wr_mod (ref08_Unnumbered.eq_1 _) ?_)
  refine wr_seq ?_
  refine wr_region ?_
  refine wo_box (v := (.agg (rAirspace a))) (j := 0) hI rfl rfl rfl rfl rfl rfl rfl fun g => ?_
  refine wo_alloc (j := 1) hI rfl rfl rfl rfl ti31 rfl fun g1 => ?_
  refine wo_nil ?_
  refine wr_hp [(some (.rows g 8 [(rAirspace a)])), (some (.rows g1 8 [[.emp, .emp, .emp, .emp, .emp, .emp, .emp, .emp]])), none, none, none, none, none, none, none, none, none, none, none] rfl ?_
  refine wr_seq ?_
  refine wr_region ?_
  refine wo_val (.ptr (ix ids 0) g 0 0) rfl (pv_fa (fa_ptr (c := 0) (off := 0) (i := 0) ti31 rfl ti22 rfl)) ?_
  refine wo_val (.sl 2 (List.map rVolume a.Volumes)) rfl (pv_load (ld_ptr hI rfl rfl rfl ti22 rfl)) ?_
  refine wo_val (.ptr (ix ids 0) g 0 5) rfl (pv_fa (fa_ptr (c := 0) (off := 5) (i := 5) ti31 rfl ti27 rfl)) ?_
  refine wo_val (.sl 2 (List.map rAirport a.Airports)) rfl (pv_load (ld_ptr hI rfl rfl rfl ti27 rfl)) ?_
  refine wo_val (.ptr (ix ids 0) g 0 6) rfl (pv_fa (fa_ptr (c := 0) (off := 6) (i := 6) ti31 rfl ti28 rfl)) ?_
  refine wo_val (.sl 4 (List.map rClass a.Classes)) rfl (pv_load (ld_ptr hI rfl rfl rfl ti28 rfl)) ?_
  refine wo_val (.agg [(.sl 2 (List.map rVolume a.Volumes)), .emp, .emp, .emp, .emp, (.sl 2 (List.map rAirport a.Airports)), (.sl 4 (List.map rClass a.Classes)), .emp]) rfl (pv_build (bd_st ti31 pl31 rfl)) ?_
  refine wo_alloc (j := 2) hI rfl rfl rfl rfl ti31 rfl fun g2 => ?_
  refine wo_store (st_ptr hI rfl rfl rfl rfl ti31 rfl rfl rfl rfl rfl) ?_
  refine wo_nil ?_
  refine wr_hp [(some (.rows g 8 [(rAirspace a)])), (some (.rows g1 8 [[.emp, .emp, .emp, .emp, .emp, .emp, .emp, .emp]])), (some (.rows g2 8 [[(.sl 2 (List.map rVolume a.Volumes)), .emp, .emp, .emp, .emp, (.sl 2 (List.map rAirport a.Airports)), (.sl 4 (List.map rClass a.Classes)), .emp]])), none, none, none, none, none, none, none, none, none, none] rfl ?_
  refine wr_seq ?_
  refine wr_seq ?_
  refine wr_region ?_
  refine wo_val (.int .i64 0) rfl pv_assign ?_
  refine wo_nil ?_
  refine wr_block ?_
  refine wr_is [(1, (.ptr (ix ids 0) g 0 0)), (2, (.ptr (ix ids 1) g1 0 0)), (3, (.ptr (ix ids 2) g2 0 0)), (4, (.int .i64 0))] (.cons rfl (.cons rfl (.cons rfl (.cons rfl .nil)))) ?_
  refine wf_eachS' a.Sectors (fun _ a1 => fun l => ref08_Unnumbered_b1 a1 l) (((fun l => (eachS (fun _ a2 => fun l1 => ref08_Unnumbered_b2 a2 l1) 0 a.Configs []).bind ((fun l1 => (eachS (fun _ a3 => fun l2 => ref08_Unnumbered_b3 a3 l2) 0 a.Segments []).bind ((fun l2 => (eachS (fun _ a4 => fun l3 => ref08_Unnumbered_b4 a4 l3) 0 a.Routes []).bind ((fun l3 => (eachS (fun _ a5 => fun l4 => ref08_Unnumbered_b5 a5 l4) 0 a.Rules []).bind ((fun l4 => .ok ({ Volumes := a.Volumes, Sectors := l, Configs := l1, Segments := l2, Routes := l3, Airports := a.Airports, Classes := a.Classes, Rules := l4 } : Airspace))))))))))) : _ → R Airspace)
    (fun j => fun l => fun (fr : Nat → AV) (h : AHeap) => ∃ (v : AV), ∃ (g3 : Nat), OwnV v (ix ids 4) g3 l.length ∧ fr = frA [(1, (.ptr (ix ids 0) g 0 0)), (2, (.ptr (ix ids 1) g1 0 0)), (3, (.ptr (ix ids 2) g2 0 0)), (4, (.int .i64 (j : Int)))] ∧ h = hp h0 ids [(some (.rows g 8 [(rAirspace a)])), (some (.rows g1 8 [[.emp, .emp, .emp, .emp, .emp, .emp, .emp, .emp]])), (some (.rows g2 8 [[(.sl 2 (List.map rVolume a.Volumes)), v, .emp, .emp, .emp, (.sl 2 (List.map rAirport a.Airports)), (.sl 4 (List.map rClass a.Classes)), .emp]])), none, (ownO v g3 5 (List.map rSector l)), none, none, none, none, none, none, none, none]) [] ?_ ?_ ?_
  · exact ⟨.emp, 0, .nil, rfl, rfl⟩
  · rintro j a1 ha1 W hW l fr h ⟨v, g3, vH, rfl, rfl⟩
    refine wr_mod (m' := ref08_Unnumbered_b1 a1 l) rfl (wr_mod (ref08_Unnumbered_b1.eq_1 _ _) ?_)
    refine wr_seq ?_
    refine wr_seq ?_
    refine wr_region ?_
    refine wo_val (.int .i64 (j : Int)) rfl pv_move ?_
    refine wo_val (.ptr (ix ids 0) g 0 1) rfl (pv_fa (fa_ptr (c := 0) (off := 1) (i := 1) ti31 rfl ti23 rfl)) ?_
    refine wo_val (.sl 5 (List.map rSector a.Sectors)) rfl (pv_load (ld_ptr hI rfl rfl rfl ti23 rfl)) ?_
    refine wo_val (.int .i64 (a.Sectors.length : Int)) rfl (pv_len (len_sl ti23)) ?_
    refine wo_val (.bool (decide ((j : Int) < (a.Sectors.length : Int)))) rfl (pv_bin rfl rfl rfl) ?_
    refine wo_nil ?_
    refine wr_lim (t := 23) (L := a.Sectors) rfl fun hlim1 => ?_
    refine wr_condT rfl (Int.ofNat_lt.2 (lt_of_get ha1)) ?_
    refine wr_skip ?_
    refine wr_seq ?_
    refine wr_block ?_
    refine wr_seq ?_
    refine wr_region ?_
    refine wo_val (.ptr (ix ids 0) g 0 1) rfl (pv_fa (fa_ptr (c := 0) (off := 1) (i := 1) ti31 rfl ti23 rfl)) ?_
    refine wo_val (.sl 5 (List.map rSector a.Sectors)) rfl (pv_load (ld_ptr hI rfl rfl rfl ti23 rfl)) ?_
    refine wo_val (.int .i64 (j : Int)) rfl pv_move ?_
    refine wo_val (.cp (rSector a1) 0) rfl (pv_ixa (ixa_nat ti23 ti53 rfl ha1)) ?_
    refine wo_val (.agg (rSector a1)) rfl (pv_load (ld_cp ti53 rfl)) ?_
    refine wo_alloc (j := 3) hI rfl rfl rfl rfl ti53 rfl fun g4 => ?_
    refine wo_store (st_ptr hI rfl rfl rfl rfl ti53 rfl rfl rfl rfl rfl) ?_
    refine wo_nil ?_
    refine wr_hp [(some (.rows g 8 [(rAirspace a)])), (some (.rows g1 8 [[.emp, .emp, .emp, .emp, .emp, .emp, .emp, .emp]])), (some (.rows g2 8 [[(.sl 2 (List.map rVolume a.Volumes)), v, .emp, .emp, .emp, (.sl 2 (List.map rAirport a.Airports)), (.sl 4 (List.map rClass a.Classes)), .emp]])), (some (.rows g4 5 [(rSector a1)])), (ownO v g3 5 (List.map rSector l)), none, none, none, none, none, none, none, none] rfl ?_
    refine wr_seq ?_
    refine wr_region ?_
    refine wo_val (.ptr (ix ids 3) g4 0 2) rfl (pv_fa (fa_ptr (c := 0) (off := 2) (i := 2) ti53 rfl ti51 rfl)) ?_
    refine wo_store (st_ptr hI rfl rfl rfl rfl ti51 rfl rfl rfl rfl rfl) ?_
    refine wo_nil ?_
    refine wr_hp [(some (.rows g 8 [(rAirspace a)])), (some (.rows g1 8 [[.emp, .emp, .emp, .emp, .emp, .emp, .emp, .emp]])), (some (.rows g2 8 [[(.sl 2 (List.map rVolume a.Volumes)), v, .emp, .emp, .emp, (.sl 2 (List.map rAirport a.Airports)), (.sl 4 (List.map rClass a.Classes)), .emp]])), (some (.rows g4 5 [[(.str a1.Name), (.sl 1 (List.map rS a1.Names)), .emp, (.int .i64 a1.Radar), (.int .i64 a1.Procedural)]])), (ownO v g3 5 (List.map rSector l)), none, none, none, none, none, none, none, none] rfl ?_
    refine wr_region ?_
    refine wo_val (.ptr (ix ids 2) g2 0 1) rfl (pv_fa (fa_ptr (c := 0) (off := 1) (i := 1) ti31 rfl ti23 rfl)) ?_
    refine wo_val v rfl (pv_load (ld_ptr hI rfl rfl rfl ti23 rfl)) ?_
    refine wo_val (.agg [(.str a1.Name), (.sl 1 (List.map rS a1.Names)), .emp, (.int .i64 a1.Radar), (.int .i64 a1.Procedural)]) rfl (pv_load (ld_ptr hI rfl rfl rfl ti53 rfl)) ?_
    refine wo_bsC (e := rSector) (L := [({ Name := a1.Name, Names := a1.Names, Volumes := [], Radar := a1.Radar, Procedural := a1.Procedural } : Sector)]) (st := 5) (rows := [[(.str a1.Name), (.sl 1 (List.map rS a1.Names)), .emp, (.int .i64 a1.Radar), (.int .i64 a1.Procedural)]]) rfl ti23 ti53 rfl rfl rfl rfl rfl (.cons (.cons (.same _) (.cons (.same _) (.cons (.emp _) (.cons (.same _) (.cons (.same _) .nil))))) .nil) (fun x => ok_Sector x) rfl rfl ?_
    refine of_need fun hl => ?_
    refine wo_append (e := rSector) (L := l) (L2 := [({ Name := a1.Name, Names := a1.Names, Volumes := [], Radar := a1.Radar, Procedural := a1.Procedural } : Sector)]) (v := v) (g := g3) (st := 5) (j := 4) hI rfl rfl rfl rfl vH rfl (src_sl rfl) ti23 ti23 rfl ti53 rfl rfl rfl hl fun v1 g5 vH1 => ?_
    refine wo_val (.ptr (ix ids 2) g2 0 1) rfl (pv_fa (fa_ptr (c := 0) (off := 1) (i := 1) ti31 rfl ti23 rfl)) ?_
    refine wo_store (st_ptrO vH1 hI rfl rfl rfl rfl ti23 rfl rfl rfl) ?_
    refine wo_nil ?_
    refine wr_hp [(some (.rows g 8 [(rAirspace a)])), (some (.rows g1 8 [[.emp, .emp, .emp, .emp, .emp, .emp, .emp, .emp]])), (some (.rows g2 8 [[(.sl 2 (List.map rVolume a.Volumes)), v1, .emp, .emp, .emp, (.sl 2 (List.map rAirport a.Airports)), (.sl 4 (List.map rClass a.Classes)), .emp]])), (some (.rows g4 5 [[(.str a1.Name), (.sl 1 (List.map rS a1.Names)), .emp, (.int .i64 a1.Radar), (.int .i64 a1.Procedural)]])), (ownO v1 g5 5 (List.map rSector (l ++ [({ Name := a1.Name, Names := a1.Names, Volumes := [], Radar := a1.Radar, Procedural := a1.Procedural } : Sector)]))), none, none, none, none, none, none, none, none] rfl ?_
    refine wr_inBlock ?_
    refine wr_region ?_
    refine wo_val (.int .i64 (j : Int)) rfl pv_move ?_
    refine wo_val (.int .i64 (IntKind.wrap .i64 ((j : Int) + 1))) rfl (pv_bin rfl rfl rfl) ?_
    refine wo_val (.int .i64 (IntKind.wrap .i64 ((j : Int) + 1))) rfl pv_assign ?_
    refine wo_nil ?_
    refine wr_drop [(some (.rows g 8 [(rAirspace a)])), (some (.rows g1 8 [[.emp, .emp, .emp, .emp, .emp, .emp, .emp, .emp]])), (some (.rows g2 8 [[(.sl 2 (List.map rVolume a.Volumes)), v1, .emp, .emp, .emp, (.sl 2 (List.map rAirport a.Airports)), (.sl 4 (List.map rClass a.Classes)), .emp]])), none, (ownO v1 g5 5 (List.map rSector (l ++ [({ Name := a1.Name, Names := a1.Names, Volumes := [], Radar := a1.Radar, Procedural := a1.Procedural } : Sector)]))), none, none, none, none, none, none, none, none] hI rfl (.keep (.keep (.keep (.drop (.keep (.keep (.keep (.keep (.keep (.keep (.keep (.keep (.keep .nil))))))))))))) ?_
    refine wr_is [(1, (.ptr (ix ids 0) g 0 0)), (2, (.ptr (ix ids 1) g1 0 0)), (3, (.ptr (ix ids 2) g2 0 0)), (4, (.int .i64 ((j + 1 : Nat) : Int)))] (.cons rfl (.cons rfl (.cons rfl (.cons (inc_ok (lt_of_get ha1) hlim1) .nil)))) ?_
    refine wb_S ?_
    refine hW (l ++ [({ Name := a1.Name, Names := a1.Names, Volumes := [], Radar := a1.Radar, Procedural := a1.Procedural } : Sector)]) _ _ ?_
    exact ⟨v1, g5, vH1, rfl, rfl⟩
  · rintro l fr h ⟨v, g3, vH, rfl, rfl⟩
    refine wr_seq ?_
    refine wr_seq ?_
    refine wr_region ?_
    refine wo_val (.int .i64 (a.Sectors.length : Int)) rfl pv_move ?_
    refine wo_val (.ptr (ix ids 0) g 0 1) rfl (pv_fa (fa_ptr (c := 0) (off := 1) (i := 1) ti31 rfl ti23 rfl)) ?_
    refine wo_val (.sl 5 (List.map rSector a.Sectors)) rfl (pv_load (ld_ptr hI rfl rfl rfl ti23 rfl)) ?_
    refine wo_val (.int .i64 (a.Sectors.length : Int)) rfl (pv_len (len_sl ti23)) ?_
    refine wo_val (.bool (decide ((a.Sectors.length : Int) < (a.Sectors.length : Int)))) rfl (pv_bin rfl rfl rfl) ?_
    refine wo_nil ?_
    refine wr_condF rfl (Int.lt_irrefl _) ?_
    refine wr_exit rfl ?_
    refine wr_seq ?_
    refine wr_seq ?_
    refine wr_region ?_
    refine wo_val (.int .i64 0) rfl pv_assign ?_
    refine wo_nil ?_
    refine wr_block ?_
    refine wr_is [(1, (.ptr (ix ids 0) g 0 0)), (2, (.ptr (ix ids 1) g1 0 0)), (3, (.ptr (ix ids 2) g2 0 0)), (6, (.int .i64 0))] (.cons rfl (.cons rfl (.cons rfl (.cons rfl .nil)))) ?_
    refine wf_eachS' a.Configs (fun _ a2 => fun l1 => ref08_Unnumbered_b2 a2 l1) (((fun l1 => (eachS (fun _ a3 => fun l2 => ref08_Unnumbered_b3 a3 l2) 0 a.Segments []).bind ((fun l2 => (eachS (fun _ a4 => fun l3 => ref08_Unnumbered_b4 a4 l3) 0 a.Routes []).bind ((fun l3 => (eachS (fun _ a5 => fun l4 => ref08_Unnumbered_b5 a5 l4) 0 a.Rules []).bind ((fun l4 => .ok ({ Volumes := a.Volumes, Sectors := l, Configs := l1, Segments := l2, Routes := l3, Airports := a.Airports, Classes := a.Classes, Rules := l4 } : Airspace))))))))) : _ → R Airspace)
      (fun j1 => fun l1 => fun (fr : Nat → AV) (h : AHeap) => ∃ (v2 : AV), ∃ (g6 : Nat), OwnV v2 (ix ids 6) g6 l1.length ∧ fr = frA [(1, (.ptr (ix ids 0) g 0 0)), (2, (.ptr (ix ids 1) g1 0 0)), (3, (.ptr (ix ids 2) g2 0 0)), (6, (.int .i64 (j1 : Int)))] ∧ h = hp h0 ids [(some (.rows g 8 [(rAirspace a)])), (some (.rows g1 8 [[.emp, .emp, .emp, .emp, .emp, .emp, .emp, .emp]])), (some (.rows g2 8 [[(.sl 2 (List.map rVolume a.Volumes)), v, v2, .emp, .emp, (.sl 2 (List.map rAirport a.Airports)), (.sl 4 (List.map rClass a.Classes)), .emp]])), none, (ownO v g3 5 (List.map rSector l)), none, (ownO v2 g6 3 (List.map rConfig l1)), none, none, none, none, none, none]) [] ?_ ?_ ?_
    · exact ⟨.emp, 0, .nil, rfl, rfl⟩
    · rintro j1 a2 ha2 W hW1 l1 fr h ⟨v2, g6, vH2, rfl, rfl⟩
      refine wr_mod (m' := ref08_Unnumbered_b2 a2 l1) rfl (wr_mod (ref08_Unnumbered_b2.eq_1 _ _) ?_)
      refine wr_seq ?_
      refine wr_seq ?_
      refine wr_region ?_
      refine wo_val (.int .i64 (j1 : Int)) rfl pv_move ?_
      refine wo_val (.ptr (ix ids 0) g 0 2) rfl (pv_fa (fa_ptr (c := 0) (off := 2) (i := 2) ti31 rfl ti24 rfl)) ?_
      refine wo_val (.sl 3 (List.map rConfig a.Configs)) rfl (pv_load (ld_ptr hI rfl rfl rfl ti24 rfl)) ?_
      refine wo_val (.int .i64 (a.Configs.length : Int)) rfl (pv_len (len_sl ti24)) ?_
      refine wo_val (.bool (decide ((j1 : Int) < (a.Configs.length : Int)))) rfl (pv_bin rfl rfl rfl) ?_
      refine wo_nil ?_
      refine wr_lim (t := 42) (L := a.Configs) rfl fun hlim3 => ?_
      refine wr_condT rfl (Int.ofNat_lt.2 (lt_of_get ha2)) ?_
      refine wr_skip ?_
      refine wr_seq ?_
      refine wr_block ?_
      refine wr_seq ?_
      refine wr_region ?_
      refine wo_val (.ptr (ix ids 0) g 0 2) rfl (pv_fa (fa_ptr (c := 0) (off := 2) (i := 2) ti31 rfl ti24 rfl)) ?_
      refine wo_val (.sl 3 (List.map rConfig a.Configs)) rfl (pv_load (ld_ptr hI rfl rfl rfl ti24 rfl)) ?_
      refine wo_val (.int .i64 (j1 : Int)) rfl pv_move ?_
      refine wo_val (.cp (rConfig a2) 0) rfl (pv_ixa (ixa_nat ti24 ti55 rfl ha2)) ?_
      refine wo_val (.agg (rConfig a2)) rfl (pv_load (ld_cp ti55 rfl)) ?_
      refine wo_alloc (j := 5) hI rfl rfl rfl rfl ti55 rfl fun g7 => ?_
      refine wo_store (st_ptr hI rfl rfl rfl rfl ti55 rfl rfl rfl rfl rfl) ?_
      refine wo_nil ?_
      refine wr_hp [(some (.rows g 8 [(rAirspace a)])), (some (.rows g1 8 [[.emp, .emp, .emp, .emp, .emp, .emp, .emp, .emp]])), (some (.rows g2 8 [[(.sl 2 (List.map rVolume a.Volumes)), v, v2, .emp, .emp, (.sl 2 (List.map rAirport a.Airports)), (.sl 4 (List.map rClass a.Classes)), .emp]])), none, (ownO v g3 5 (List.map rSector l)), (some (.rows g7 3 [(rConfig a2)])), (ownO v2 g6 3 (List.map rConfig l1)), none, none, none, none, none, none] rfl ?_
      refine wr_seq ?_
      refine wr_region ?_
      refine wo_val (.ptr (ix ids 5) g7 0 2) rfl (pv_fa (fa_ptr (c := 0) (off := 2) (i := 2) ti55 rfl ti51 rfl)) ?_
      refine wo_store (st_ptr hI rfl rfl rfl rfl ti51 rfl rfl rfl rfl rfl) ?_
      refine wo_nil ?_
      refine wr_hp [(some (.rows g 8 [(rAirspace a)])), (some (.rows g1 8 [[.emp, .emp, .emp, .emp, .emp, .emp, .emp, .emp]])), (some (.rows g2 8 [[(.sl 2 (List.map rVolume a.Volumes)), v, v2, .emp, .emp, (.sl 2 (List.map rAirport a.Airports)), (.sl 4 (List.map rClass a.Classes)), .emp]])), none, (ownO v g3 5 (List.map rSector l)), (some (.rows g7 3 [[(.str a2.Name), (.sl 1 (List.map rS a2.Names)), .emp]])), (ownO v2 g6 3 (List.map rConfig l1)), none, none, none, none, none, none] rfl ?_
      refine wr_region ?_
      refine wo_val (.ptr (ix ids 2) g2 0 2) rfl (pv_fa (fa_ptr (c := 0) (off := 2) (i := 2) ti31 rfl ti24 rfl)) ?_
      refine wo_val v2 rfl (pv_load (ld_ptr hI rfl rfl rfl ti24 rfl)) ?_
      refine wo_val (.agg [(.str a2.Name), (.sl 1 (List.map rS a2.Names)), .emp]) rfl (pv_load (ld_ptr hI rfl rfl rfl ti55 rfl)) ?_
      refine wo_bsC (e := rConfig) (L := [({ Name := a2.Name, Names := a2.Names, Sectors := [] } : Config)]) (st := 3) (rows := [[(.str a2.Name), (.sl 1 (List.map rS a2.Names)), .emp]]) rfl ti24 ti55 rfl rfl rfl rfl rfl (.cons (.cons (.same _) (.cons (.same _) (.cons (.emp _) .nil))) .nil) (fun x => ok_Config x) rfl rfl ?_
      refine of_need fun hl1 => ?_
      refine wo_append (e := rConfig) (L := l1) (L2 := [({ Name := a2.Name, Names := a2.Names, Sectors := [] } : Config)]) (v := v2) (g := g6) (st := 3) (j := 6) hI rfl rfl rfl rfl vH2 rfl (src_sl rfl) ti24 ti24 rfl ti55 rfl rfl rfl hl1 fun v3 g8 vH3 => ?_
      refine wo_val (.ptr (ix ids 2) g2 0 2) rfl (pv_fa (fa_ptr (c := 0) (off := 2) (i := 2) ti31 rfl ti24 rfl)) ?_
      refine wo_store (st_ptrO vH3 hI rfl rfl rfl rfl ti24 rfl rfl rfl) ?_
      refine wo_nil ?_
      refine wr_hp [(some (.rows g 8 [(rAirspace a)])), (some (.rows g1 8 [[.emp, .emp, .emp, .emp, .emp, .emp, .emp, .emp]])), (some (.rows g2 8 [[(.sl 2 (List.map rVolume a.Volumes)), v, v3, .emp, .emp, (.sl 2 (List.map rAirport a.Airports)), (.sl 4 (List.map rClass a.Classes)), .emp]])), none, (ownO v g3 5 (List.map rSector l)), (some (.rows g7 3 [[(.str a2.Name), (.sl 1 (List.map rS a2.Names)), .emp]])), (ownO v3 g8 3 (List.map rConfig (l1 ++ [({ Name := a2.Name, Names := a2.Names, Sectors := [] } : Config)]))), none, none, none, none, none, none] rfl ?_
      refine wr_inBlock ?_
      refine wr_region ?_
      refine wo_val (.int .i64 (j1 : Int)) rfl pv_move ?_
      refine wo_val (.int .i64 (IntKind.wrap .i64 ((j1 : Int) + 1))) rfl (pv_bin rfl rfl rfl) ?_
      refine wo_val (.int .i64 (IntKind.wrap .i64 ((j1 : Int) + 1))) rfl pv_assign ?_
      refine wo_nil ?_
      refine wr_drop [(some (.rows g 8 [(rAirspace a)])), (some (.rows g1 8 [[.emp, .emp, .emp, .emp, .emp, .emp, .emp, .emp]])), (some (.rows g2 8 [[(.sl 2 (List.map rVolume a.Volumes)), v, v3, .emp, .emp, (.sl 2 (List.map rAirport a.Airports)), (.sl 4 (List.map rClass a.Classes)), .emp]])), none, (ownO v g3 5 (List.map rSector l)), none, (ownO v3 g8 3 (List.map rConfig (l1 ++ [({ Name := a2.Name, Names := a2.Names, Sectors := [] } : Config)]))), none, none, none, none, none, none] hI rfl (.keep (.keep (.keep (.keep (.keep (.drop (.keep (.keep (.keep (.keep (.keep (.keep (.keep .nil))))))))))))) ?_
      refine wr_is [(1, (.ptr (ix ids 0) g 0 0)), (2, (.ptr (ix ids 1) g1 0 0)), (3, (.ptr (ix ids 2) g2 0 0)), (6, (.int .i64 ((j1 + 1 : Nat) : Int)))] (.cons rfl (.cons rfl (.cons rfl (.cons (inc_ok (lt_of_get ha2) hlim3) .nil)))) ?_
      refine wb_S ?_
      refine hW1 (l1 ++ [({ Name := a2.Name, Names := a2.Names, Sectors := [] } : Config)]) _ _ ?_
      exact ⟨v3, g8, vH3, rfl, rfl⟩
    · rintro l1 fr h ⟨v2, g6, vH2, rfl, rfl⟩
      refine wr_seq ?_
      refine wr_seq ?_
      refine wr_region ?_
      refine wo_val (.int .i64 (a.Configs.length : Int)) rfl pv_move ?_
      refine wo_val (.ptr (ix ids 0) g 0 2) rfl (pv_fa (fa_ptr (c := 0) (off := 2) (i := 2) ti31 rfl ti24 rfl)) ?_
      refine wo_val (.sl 3 (List.map rConfig a.Configs)) rfl (pv_load (ld_ptr hI rfl rfl rfl ti24 rfl)) ?_
      refine wo_val (.int .i64 (a.Configs.length : Int)) rfl (pv_len (len_sl ti24)) ?_
      refine wo_val (.bool (decide ((a.Configs.length : Int) < (a.Configs.length : Int)))) rfl (pv_bin rfl rfl rfl) ?_
      refine wo_nil ?_
      refine wr_condF rfl (Int.lt_irrefl _) ?_
      refine wr_exit rfl ?_
      refine wr_seq ?_
      refine wr_seq ?_
      refine wr_region ?_
      refine wo_val (.int .i64 0) rfl pv_assign ?_
      refine wo_nil ?_
      refine wr_block ?_
      refine wr_is [(1, (.ptr (ix ids 0) g 0 0)), (2, (.ptr (ix ids 1) g1 0 0)), (3, (.ptr (ix ids 2) g2 0 0)), (8, (.int .i64 0))] (.cons rfl (.cons rfl (.cons rfl (.cons rfl .nil)))) ?_
      refine wf_eachS' a.Segments (fun _ a3 => fun l2 => ref08_Unnumbered_b3 a3 l2) (((fun l2 => (eachS (fun _ a4 => fun l3 => ref08_Unnumbered_b4 a4 l3) 0 a.Routes []).bind ((fun l3 => (eachS (fun _ a5 => fun l4 => ref08_Unnumbered_b5 a5 l4) 0 a.Rules []).bind ((fun l4 => .ok ({ Volumes := a.Volumes, Sectors := l, Configs := l1, Segments := l2, Routes := l3, Airports := a.Airports, Classes := a.Classes, Rules := l4 } : Airspace))))))) : _ → R Airspace)
        (fun j2 => fun l2 => fun (fr : Nat → AV) (h : AHeap) => ∃ (v4 : AV), ∃ (g9 : Nat), OwnV v4 (ix ids 8) g9 l2.length ∧ fr = frA [(1, (.ptr (ix ids 0) g 0 0)), (2, (.ptr (ix ids 1) g1 0 0)), (3, (.ptr (ix ids 2) g2 0 0)), (8, (.int .i64 (j2 : Int)))] ∧ h = hp h0 ids [(some (.rows g 8 [(rAirspace a)])), (some (.rows g1 8 [[.emp, .emp, .emp, .emp, .emp, .emp, .emp, .emp]])), (some (.rows g2 8 [[(.sl 2 (List.map rVolume a.Volumes)), v, v2, v4, .emp, (.sl 2 (List.map rAirport a.Airports)), (.sl 4 (List.map rClass a.Classes)), .emp]])), none, (ownO v g3 5 (List.map rSector l)), none, (ownO v2 g6 3 (List.map rConfig l1)), none, (ownO v4 g9 5 (List.map rSegment l2)), none, none, none, none]) [] ?_ ?_ ?_
      · exact ⟨.emp, 0, .nil, rfl, rfl⟩
      · rintro j2 a3 ha3 W hW2 l2 fr h ⟨v4, g9, vH4, rfl, rfl⟩
        refine wr_mod (m' := ref08_Unnumbered_b3 a3 l2) rfl (wr_mod (ref08_Unnumbered_b3.eq_1 _ _) ?_)
        refine wr_seq ?_
        refine wr_seq ?_
        refine wr_region ?_
        refine wo_val (.int .i64 (j2 : Int)) rfl pv_move ?_
        refine wo_val (.ptr (ix ids 0) g 0 3) rfl (pv_fa (fa_ptr (c := 0) (off := 3) (i := 3) ti31 rfl ti25 rfl)) ?_
        refine wo_val (.sl 5 (List.map rSegment a.Segments)) rfl (pv_load (ld_ptr hI rfl rfl rfl ti25 rfl)) ?_
        refine wo_val (.int .i64 (a.Segments.length : Int)) rfl (pv_len (len_sl ti25)) ?_
        refine wo_val (.bool (decide ((j2 : Int) < (a.Segments.length : Int)))) rfl (pv_bin rfl rfl rfl) ?_
        refine wo_nil ?_
        refine wr_lim (t := 61) (L := a.Segments) rfl fun hlim5 => ?_
        refine wr_condT rfl (Int.ofNat_lt.2 (lt_of_get ha3)) ?_
        refine wr_skip ?_
        refine wr_seq ?_
        refine wr_block ?_
        refine wr_seq ?_
        refine wr_region ?_
        refine wo_val (.ptr (ix ids 0) g 0 3) rfl (pv_fa (fa_ptr (c := 0) (off := 3) (i := 3) ti31 rfl ti25 rfl)) ?_
        refine wo_val (.sl 5 (List.map rSegment a.Segments)) rfl (pv_load (ld_ptr hI rfl rfl rfl ti25 rfl)) ?_
        refine wo_val (.int .i64 (j2 : Int)) rfl pv_move ?_
        refine wo_val (.cp (rSegment a3) 0) rfl (pv_ixa (ixa_nat ti25 ti57 rfl ha3)) ?_
        refine wo_val (.agg (rSegment a3)) rfl (pv_load (ld_cp ti57 rfl)) ?_
        refine wo_alloc (j := 7) hI rfl rfl rfl rfl ti57 rfl fun g10 => ?_
        refine wo_store (st_ptr hI rfl rfl rfl rfl ti57 rfl rfl rfl rfl rfl) ?_
        refine wo_nil ?_
        refine wr_hp [(some (.rows g 8 [(rAirspace a)])), (some (.rows g1 8 [[.emp, .emp, .emp, .emp, .emp, .emp, .emp, .emp]])), (some (.rows g2 8 [[(.sl 2 (List.map rVolume a.Volumes)), v, v2, v4, .emp, (.sl 2 (List.map rAirport a.Airports)), (.sl 4 (List.map rClass a.Classes)), .emp]])), none, (ownO v g3 5 (List.map rSector l)), none, (ownO v2 g6 3 (List.map rConfig l1)), (some (.rows g10 5 [(rSegment a3)])), (ownO v4 g9 5 (List.map rSegment l2)), none, none, none, none] rfl ?_
        refine wr_seq ?_
        refine wr_region ?_
        refine wo_val (.ptr (ix ids 7) g10 0 2) rfl (pv_fa (fa_ptr (c := 0) (off := 2) (i := 2) ti57 rfl ti3 rfl)) ?_
        refine wo_store (st_ptr hI rfl rfl rfl rfl ti3 rfl rfl rfl rfl rfl) ?_
        refine wo_nil ?_
        refine wr_hp [(some (.rows g 8 [(rAirspace a)])), (some (.rows g1 8 [[.emp, .emp, .emp, .emp, .emp, .emp, .emp, .emp]])), (some (.rows g2 8 [[(.sl 2 (List.map rVolume a.Volumes)), v, v2, v4, .emp, (.sl 2 (List.map rAirport a.Airports)), (.sl 4 (List.map rClass a.Classes)), .emp]])), none, (ownO v g3 5 (List.map rSector l)), none, (ownO v2 g6 3 (List.map rConfig l1)), (some (.rows g10 5 [[(.str a3.Name), (.str a3.In), (.int .i64 0), (.int .i64 a3.Length), (.sl 2 (List.map rSpan a3.Open))]])), (ownO v4 g9 5 (List.map rSegment l2)), none, none, none, none] rfl ?_
        refine wr_region ?_
        refine wo_val (.ptr (ix ids 2) g2 0 3) rfl (pv_fa (fa_ptr (c := 0) (off := 3) (i := 3) ti31 rfl ti25 rfl)) ?_
        refine wo_val v4 rfl (pv_load (ld_ptr hI rfl rfl rfl ti25 rfl)) ?_
        refine wo_val (.agg [(.str a3.Name), (.str a3.In), (.int .i64 0), (.int .i64 a3.Length), (.sl 2 (List.map rSpan a3.Open))]) rfl (pv_load (ld_ptr hI rfl rfl rfl ti57 rfl)) ?_
        refine wo_bsC (e := rSegment) (L := [({ Name := a3.Name, In := a3.In, Volume := 0, Length := a3.Length, Open := a3.Open } : Segment)]) (st := 5) (rows := [[(.str a3.Name), (.str a3.In), (.int .i64 0), (.int .i64 a3.Length), (.sl 2 (List.map rSpan a3.Open))]]) rfl ti25 ti57 rfl rfl rfl rfl rfl (.cons (.cons (.same _) (.cons (.same _) (.cons (.same _) (.cons (.same _) (.cons (.same _) .nil))))) .nil) (fun x => ok_Segment x) rfl rfl ?_
        refine of_need fun hl2 => ?_
        refine wo_append (e := rSegment) (L := l2) (L2 := [({ Name := a3.Name, In := a3.In, Volume := 0, Length := a3.Length, Open := a3.Open } : Segment)]) (v := v4) (g := g9) (st := 5) (j := 8) hI rfl rfl rfl rfl vH4 rfl (src_sl rfl) ti25 ti25 rfl ti57 rfl rfl rfl hl2 fun v5 g11 vH5 => ?_
        refine wo_val (.ptr (ix ids 2) g2 0 3) rfl (pv_fa (fa_ptr (c := 0) (off := 3) (i := 3) ti31 rfl ti25 rfl)) ?_
        refine wo_store (st_ptrO vH5 hI rfl rfl rfl rfl ti25 rfl rfl rfl) ?_
        refine wo_nil ?_
        refine wr_hp [(some (.rows g 8 [(rAirspace a)])), (some (.rows g1 8 [[.emp, .emp, .emp, .emp, .emp, .emp, .emp, .emp]])), (some (.rows g2 8 [[(.sl 2 (List.map rVolume a.Volumes)), v, v2, v5, .emp, (.sl 2 (List.map rAirport a.Airports)), (.sl 4 (List.map rClass a.Classes)), .emp]])), none, (ownO v g3 5 (List.map rSector l)), none, (ownO v2 g6 3 (List.map rConfig l1)), (some (.rows g10 5 [[(.str a3.Name), (.str a3.In), (.int .i64 0), (.int .i64 a3.Length), (.sl 2 (List.map rSpan a3.Open))]])), (ownO v5 g11 5 (List.map rSegment (l2 ++ [({ Name := a3.Name, In := a3.In, Volume := 0, Length := a3.Length, Open := a3.Open } : Segment)]))), none, none, none, none] rfl ?_
        refine wr_inBlock ?_
        refine wr_region ?_
        refine wo_val (.int .i64 (j2 : Int)) rfl pv_move ?_
        refine wo_val (.int .i64 (IntKind.wrap .i64 ((j2 : Int) + 1))) rfl (pv_bin rfl rfl rfl) ?_
        refine wo_val (.int .i64 (IntKind.wrap .i64 ((j2 : Int) + 1))) rfl pv_assign ?_
        refine wo_nil ?_
        refine wr_drop [(some (.rows g 8 [(rAirspace a)])), (some (.rows g1 8 [[.emp, .emp, .emp, .emp, .emp, .emp, .emp, .emp]])), (some (.rows g2 8 [[(.sl 2 (List.map rVolume a.Volumes)), v, v2, v5, .emp, (.sl 2 (List.map rAirport a.Airports)), (.sl 4 (List.map rClass a.Classes)), .emp]])), none, (ownO v g3 5 (List.map rSector l)), none, (ownO v2 g6 3 (List.map rConfig l1)), none, (ownO v5 g11 5 (List.map rSegment (l2 ++ [({ Name := a3.Name, In := a3.In, Volume := 0, Length := a3.Length, Open := a3.Open } : Segment)]))), none, none, none, none] hI rfl (.keep (.keep (.keep (.keep (.keep (.keep (.keep (.drop (.keep (.keep (.keep (.keep (.keep .nil))))))))))))) ?_
        refine wr_is [(1, (.ptr (ix ids 0) g 0 0)), (2, (.ptr (ix ids 1) g1 0 0)), (3, (.ptr (ix ids 2) g2 0 0)), (8, (.int .i64 ((j2 + 1 : Nat) : Int)))] (.cons rfl (.cons rfl (.cons rfl (.cons (inc_ok (lt_of_get ha3) hlim5) .nil)))) ?_
        refine wb_S ?_
        refine hW2 (l2 ++ [({ Name := a3.Name, In := a3.In, Volume := 0, Length := a3.Length, Open := a3.Open } : Segment)]) _ _ ?_
        exact ⟨v5, g11, vH5, rfl, rfl⟩
      · rintro l2 fr h ⟨v4, g9, vH4, rfl, rfl⟩
        refine wr_seq ?_
        refine wr_seq ?_
        refine wr_region ?_
        refine wo_val (.int .i64 (a.Segments.length : Int)) rfl pv_move ?_
        refine wo_val (.ptr (ix ids 0) g 0 3) rfl (pv_fa (fa_ptr (c := 0) (off := 3) (i := 3) ti31 rfl ti25 rfl)) ?_
        refine wo_val (.sl 5 (List.map rSegment a.Segments)) rfl (pv_load (ld_ptr hI rfl rfl rfl ti25 rfl)) ?_
        refine wo_val (.int .i64 (a.Segments.length : Int)) rfl (pv_len (len_sl ti25)) ?_
        refine wo_val (.bool (decide ((a.Segments.length : Int) < (a.Segments.length : Int)))) rfl (pv_bin rfl rfl rfl) ?_
        refine wo_nil ?_
        refine wr_condF rfl (Int.lt_irrefl _) ?_
        refine wr_exit rfl ?_
        refine wr_seq ?_
        refine wr_seq ?_
        refine wr_region ?_
        refine wo_val (.int .i64 0) rfl pv_assign ?_
        refine wo_nil ?_
        refine wr_block ?_
        refine wr_is [(1, (.ptr (ix ids 0) g 0 0)), (2, (.ptr (ix ids 1) g1 0 0)), (3, (.ptr (ix ids 2) g2 0 0)), (10, (.int .i64 0))] (.cons rfl (.cons rfl (.cons rfl (.cons rfl .nil)))) ?_
        refine wf_eachS' a.Routes (fun _ a4 => fun l3 => ref08_Unnumbered_b4 a4 l3) (((fun l3 => (eachS (fun _ a5 => fun l4 => ref08_Unnumbered_b5 a5 l4) 0 a.Rules []).bind ((fun l4 => .ok ({ Volumes := a.Volumes, Sectors := l, Configs := l1, Segments := l2, Routes := l3, Airports := a.Airports, Classes := a.Classes, Rules := l4 } : Airspace))))) : _ → R Airspace)
          (fun j3 => fun l3 => fun (fr : Nat → AV) (h : AHeap) => ∃ (v6 : AV), ∃ (g12 : Nat), OwnV v6 (ix ids 10) g12 l3.length ∧ fr = frA [(1, (.ptr (ix ids 0) g 0 0)), (2, (.ptr (ix ids 1) g1 0 0)), (3, (.ptr (ix ids 2) g2 0 0)), (10, (.int .i64 (j3 : Int)))] ∧ h = hp h0 ids [(some (.rows g 8 [(rAirspace a)])), (some (.rows g1 8 [[.emp, .emp, .emp, .emp, .emp, .emp, .emp, .emp]])), (some (.rows g2 8 [[(.sl 2 (List.map rVolume a.Volumes)), v, v2, v4, v6, (.sl 2 (List.map rAirport a.Airports)), (.sl 4 (List.map rClass a.Classes)), .emp]])), none, (ownO v g3 5 (List.map rSector l)), none, (ownO v2 g6 3 (List.map rConfig l1)), none, (ownO v4 g9 5 (List.map rSegment l2)), none, (ownO v6 g12 7 (List.map rRoute l3)), none, none]) [] ?_ ?_ ?_
        · exact ⟨.emp, 0, .nil, rfl, rfl⟩
        · rintro j3 a4 ha4 W hW3 l3 fr h ⟨v6, g12, vH6, rfl, rfl⟩
          refine wr_mod (m' := ref08_Unnumbered_b4 a4 l3) rfl (wr_mod (ref08_Unnumbered_b4.eq_1 _ _) ?_)
          refine wr_seq ?_
          refine wr_seq ?_
          refine wr_region ?_
          refine wo_val (.int .i64 (j3 : Int)) rfl pv_move ?_
          refine wo_val (.ptr (ix ids 0) g 0 4) rfl (pv_fa (fa_ptr (c := 0) (off := 4) (i := 4) ti31 rfl ti26 rfl)) ?_
          refine wo_val (.sl 7 (List.map rRoute a.Routes)) rfl (pv_load (ld_ptr hI rfl rfl rfl ti26 rfl)) ?_
          refine wo_val (.int .i64 (a.Routes.length : Int)) rfl (pv_len (len_sl ti26)) ?_
          refine wo_val (.bool (decide ((j3 : Int) < (a.Routes.length : Int)))) rfl (pv_bin rfl rfl rfl) ?_
          refine wo_nil ?_
          refine wr_lim (t := 80) (L := a.Routes) rfl fun hlim7 => ?_
          refine wr_condT rfl (Int.ofNat_lt.2 (lt_of_get ha4)) ?_
          refine wr_skip ?_
          refine wr_seq ?_
          refine wr_block ?_
          refine wr_seq ?_
          refine wr_region ?_
          refine wo_val (.ptr (ix ids 0) g 0 4) rfl (pv_fa (fa_ptr (c := 0) (off := 4) (i := 4) ti31 rfl ti26 rfl)) ?_
          refine wo_val (.sl 7 (List.map rRoute a.Routes)) rfl (pv_load (ld_ptr hI rfl rfl rfl ti26 rfl)) ?_
          refine wo_val (.int .i64 (j3 : Int)) rfl pv_move ?_
          refine wo_val (.cp (rRoute a4) 0) rfl (pv_ixa (ixa_nat ti26 ti59 rfl ha4)) ?_
          refine wo_val (.agg (rRoute a4)) rfl (pv_load (ld_cp ti59 rfl)) ?_
          refine wo_alloc (j := 9) hI rfl rfl rfl rfl ti59 rfl fun g13 => ?_
          refine wo_store (st_ptr hI rfl rfl rfl rfl ti59 rfl rfl rfl rfl rfl) ?_
          refine wo_nil ?_
          refine wr_hp [(some (.rows g 8 [(rAirspace a)])), (some (.rows g1 8 [[.emp, .emp, .emp, .emp, .emp, .emp, .emp, .emp]])), (some (.rows g2 8 [[(.sl 2 (List.map rVolume a.Volumes)), v, v2, v4, v6, (.sl 2 (List.map rAirport a.Airports)), (.sl 4 (List.map rClass a.Classes)), .emp]])), none, (ownO v g3 5 (List.map rSector l)), none, (ownO v2 g6 3 (List.map rConfig l1)), none, (ownO v4 g9 5 (List.map rSegment l2)), (some (.rows g13 7 [(rRoute a4)])), (ownO v6 g12 7 (List.map rRoute l3)), none, none] rfl ?_
          refine wr_seq ?_
          refine wr_region ?_
          refine wo_val (.ptr (ix ids 9) g13 0 3) rfl (pv_fa (fa_ptr (c := 0) (off := 3) (i := 3) ti59 rfl ti3 rfl)) ?_
          refine wo_store (st_ptr hI rfl rfl rfl rfl ti3 rfl rfl rfl rfl rfl) ?_
          refine wo_nil ?_
          refine wr_hp [(some (.rows g 8 [(rAirspace a)])), (some (.rows g1 8 [[.emp, .emp, .emp, .emp, .emp, .emp, .emp, .emp]])), (some (.rows g2 8 [[(.sl 2 (List.map rVolume a.Volumes)), v, v2, v4, v6, (.sl 2 (List.map rAirport a.Airports)), (.sl 4 (List.map rClass a.Classes)), .emp]])), none, (ownO v g3 5 (List.map rSector l)), none, (ownO v2 g6 3 (List.map rConfig l1)), none, (ownO v4 g9 5 (List.map rSegment l2)), (some (.rows g13 7 [[(.str a4.Name), (.str a4.A), (.str a4.B), (.int .i64 0), (.int .i64 a4.To), (.sl 1 (List.map rS a4.Names)), (.sl 1 (List.map (rI .i64) a4.Segments))]])), (ownO v6 g12 7 (List.map rRoute l3)), none, none] rfl ?_
          refine wr_seq ?_
          refine wr_region ?_
          refine wo_val (.ptr (ix ids 9) g13 0 4) rfl (pv_fa (fa_ptr (c := 0) (off := 4) (i := 4) ti59 rfl ti3 rfl)) ?_
          refine wo_store (st_ptr hI rfl rfl rfl rfl ti3 rfl rfl rfl rfl rfl) ?_
          refine wo_nil ?_
          refine wr_hp [(some (.rows g 8 [(rAirspace a)])), (some (.rows g1 8 [[.emp, .emp, .emp, .emp, .emp, .emp, .emp, .emp]])), (some (.rows g2 8 [[(.sl 2 (List.map rVolume a.Volumes)), v, v2, v4, v6, (.sl 2 (List.map rAirport a.Airports)), (.sl 4 (List.map rClass a.Classes)), .emp]])), none, (ownO v g3 5 (List.map rSector l)), none, (ownO v2 g6 3 (List.map rConfig l1)), none, (ownO v4 g9 5 (List.map rSegment l2)), (some (.rows g13 7 [[(.str a4.Name), (.str a4.A), (.str a4.B), (.int .i64 0), (.int .i64 0), (.sl 1 (List.map rS a4.Names)), (.sl 1 (List.map (rI .i64) a4.Segments))]])), (ownO v6 g12 7 (List.map rRoute l3)), none, none] rfl ?_
          refine wr_seq ?_
          refine wr_region ?_
          refine wo_val (.ptr (ix ids 9) g13 0 6) rfl (pv_fa (fa_ptr (c := 0) (off := 6) (i := 6) ti59 rfl ti51 rfl)) ?_
          refine wo_store (st_ptr hI rfl rfl rfl rfl ti51 rfl rfl rfl rfl rfl) ?_
          refine wo_nil ?_
          refine wr_hp [(some (.rows g 8 [(rAirspace a)])), (some (.rows g1 8 [[.emp, .emp, .emp, .emp, .emp, .emp, .emp, .emp]])), (some (.rows g2 8 [[(.sl 2 (List.map rVolume a.Volumes)), v, v2, v4, v6, (.sl 2 (List.map rAirport a.Airports)), (.sl 4 (List.map rClass a.Classes)), .emp]])), none, (ownO v g3 5 (List.map rSector l)), none, (ownO v2 g6 3 (List.map rConfig l1)), none, (ownO v4 g9 5 (List.map rSegment l2)), (some (.rows g13 7 [[(.str a4.Name), (.str a4.A), (.str a4.B), (.int .i64 0), (.int .i64 0), (.sl 1 (List.map rS a4.Names)), .emp]])), (ownO v6 g12 7 (List.map rRoute l3)), none, none] rfl ?_
          refine wr_region ?_
          refine wo_val (.ptr (ix ids 2) g2 0 4) rfl (pv_fa (fa_ptr (c := 0) (off := 4) (i := 4) ti31 rfl ti26 rfl)) ?_
          refine wo_val v6 rfl (pv_load (ld_ptr hI rfl rfl rfl ti26 rfl)) ?_
          refine wo_val (.agg [(.str a4.Name), (.str a4.A), (.str a4.B), (.int .i64 0), (.int .i64 0), (.sl 1 (List.map rS a4.Names)), .emp]) rfl (pv_load (ld_ptr hI rfl rfl rfl ti59 rfl)) ?_
          refine wo_bsC (e := rRoute) (L := [({ Name := a4.Name, A := a4.A, B := a4.B, From := 0, To := 0, Names := a4.Names, Segments := [] } : Route)]) (st := 7) (rows := [[(.str a4.Name), (.str a4.A), (.str a4.B), (.int .i64 0), (.int .i64 0), (.sl 1 (List.map rS a4.Names)), .emp]]) rfl ti26 ti59 rfl rfl rfl rfl rfl (.cons (.cons (.same _) (.cons (.same _) (.cons (.same _) (.cons (.same _) (.cons (.same _) (.cons (.same _) (.cons (.emp _) .nil))))))) .nil) (fun x => ok_Route x) rfl rfl ?_
          refine of_need fun hl3 => ?_
          refine wo_append (e := rRoute) (L := l3) (L2 := [({ Name := a4.Name, A := a4.A, B := a4.B, From := 0, To := 0, Names := a4.Names, Segments := [] } : Route)]) (v := v6) (g := g12) (st := 7) (j := 10) hI rfl rfl rfl rfl vH6 rfl (src_sl rfl) ti26 ti26 rfl ti59 rfl rfl rfl hl3 fun v7 g14 vH7 => ?_
          refine wo_val (.ptr (ix ids 2) g2 0 4) rfl (pv_fa (fa_ptr (c := 0) (off := 4) (i := 4) ti31 rfl ti26 rfl)) ?_
          refine wo_store (st_ptrO vH7 hI rfl rfl rfl rfl ti26 rfl rfl rfl) ?_
          refine wo_nil ?_
          refine wr_hp [(some (.rows g 8 [(rAirspace a)])), (some (.rows g1 8 [[.emp, .emp, .emp, .emp, .emp, .emp, .emp, .emp]])), (some (.rows g2 8 [[(.sl 2 (List.map rVolume a.Volumes)), v, v2, v4, v7, (.sl 2 (List.map rAirport a.Airports)), (.sl 4 (List.map rClass a.Classes)), .emp]])), none, (ownO v g3 5 (List.map rSector l)), none, (ownO v2 g6 3 (List.map rConfig l1)), none, (ownO v4 g9 5 (List.map rSegment l2)), (some (.rows g13 7 [[(.str a4.Name), (.str a4.A), (.str a4.B), (.int .i64 0), (.int .i64 0), (.sl 1 (List.map rS a4.Names)), .emp]])), (ownO v7 g14 7 (List.map rRoute (l3 ++ [({ Name := a4.Name, A := a4.A, B := a4.B, From := 0, To := 0, Names := a4.Names, Segments := [] } : Route)]))), none, none] rfl ?_
          refine wr_inBlock ?_
          refine wr_region ?_
          refine wo_val (.int .i64 (j3 : Int)) rfl pv_move ?_
          refine wo_val (.int .i64 (IntKind.wrap .i64 ((j3 : Int) + 1))) rfl (pv_bin rfl rfl rfl) ?_
          refine wo_val (.int .i64 (IntKind.wrap .i64 ((j3 : Int) + 1))) rfl pv_assign ?_
          refine wo_nil ?_
          refine wr_drop [(some (.rows g 8 [(rAirspace a)])), (some (.rows g1 8 [[.emp, .emp, .emp, .emp, .emp, .emp, .emp, .emp]])), (some (.rows g2 8 [[(.sl 2 (List.map rVolume a.Volumes)), v, v2, v4, v7, (.sl 2 (List.map rAirport a.Airports)), (.sl 4 (List.map rClass a.Classes)), .emp]])), none, (ownO v g3 5 (List.map rSector l)), none, (ownO v2 g6 3 (List.map rConfig l1)), none, (ownO v4 g9 5 (List.map rSegment l2)), none, (ownO v7 g14 7 (List.map rRoute (l3 ++ [({ Name := a4.Name, A := a4.A, B := a4.B, From := 0, To := 0, Names := a4.Names, Segments := [] } : Route)]))), none, none] hI rfl (.keep (.keep (.keep (.keep (.keep (.keep (.keep (.keep (.keep (.drop (.keep (.keep (.keep .nil))))))))))))) ?_
          refine wr_is [(1, (.ptr (ix ids 0) g 0 0)), (2, (.ptr (ix ids 1) g1 0 0)), (3, (.ptr (ix ids 2) g2 0 0)), (10, (.int .i64 ((j3 + 1 : Nat) : Int)))] (.cons rfl (.cons rfl (.cons rfl (.cons (inc_ok (lt_of_get ha4) hlim7) .nil)))) ?_
          refine wb_S ?_
          refine hW3 (l3 ++ [({ Name := a4.Name, A := a4.A, B := a4.B, From := 0, To := 0, Names := a4.Names, Segments := [] } : Route)]) _ _ ?_
          exact ⟨v7, g14, vH7, rfl, rfl⟩
        · rintro l3 fr h ⟨v6, g12, vH6, rfl, rfl⟩
          refine wr_seq ?_
          refine wr_seq ?_
          refine wr_region ?_
          refine wo_val (.int .i64 (a.Routes.length : Int)) rfl pv_move ?_
          refine wo_val (.ptr (ix ids 0) g 0 4) rfl (pv_fa (fa_ptr (c := 0) (off := 4) (i := 4) ti31 rfl ti26 rfl)) ?_
          refine wo_val (.sl 7 (List.map rRoute a.Routes)) rfl (pv_load (ld_ptr hI rfl rfl rfl ti26 rfl)) ?_
          refine wo_val (.int .i64 (a.Routes.length : Int)) rfl (pv_len (len_sl ti26)) ?_
          refine wo_val (.bool (decide ((a.Routes.length : Int) < (a.Routes.length : Int)))) rfl (pv_bin rfl rfl rfl) ?_
          refine wo_nil ?_
          refine wr_condF rfl (Int.lt_irrefl _) ?_
          refine wr_exit rfl ?_
          refine wr_seq ?_
          refine wr_seq ?_
          refine wr_region ?_
          refine wo_val (.int .i64 0) rfl pv_assign ?_
          refine wo_nil ?_
          refine wr_block ?_
          refine wr_is [(1, (.ptr (ix ids 0) g 0 0)), (2, (.ptr (ix ids 1) g1 0 0)), (3, (.ptr (ix ids 2) g2 0 0)), (12, (.int .i64 0))] (.cons rfl (.cons rfl (.cons rfl (.cons rfl .nil)))) ?_
          refine wf_eachS' a.Rules (fun _ a5 => fun l4 => ref08_Unnumbered_b5 a5 l4) (((fun l4 => .ok ({ Volumes := a.Volumes, Sectors := l, Configs := l1, Segments := l2, Routes := l3, Airports := a.Airports, Classes := a.Classes, Rules := l4 } : Airspace))) : _ → R Airspace)
            (fun j4 => fun l4 => fun (fr : Nat → AV) (h : AHeap) => ∃ (v8 : AV), ∃ (g15 : Nat), OwnV v8 (ix ids 12) g15 l4.length ∧ fr = frA [(1, (.ptr (ix ids 0) g 0 0)), (2, (.ptr (ix ids 1) g1 0 0)), (3, (.ptr (ix ids 2) g2 0 0)), (12, (.int .i64 (j4 : Int)))] ∧ h = hp h0 ids [(some (.rows g 8 [(rAirspace a)])), (some (.rows g1 8 [[.emp, .emp, .emp, .emp, .emp, .emp, .emp, .emp]])), (some (.rows g2 8 [[(.sl 2 (List.map rVolume a.Volumes)), v, v2, v4, v6, (.sl 2 (List.map rAirport a.Airports)), (.sl 4 (List.map rClass a.Classes)), v8]])), none, (ownO v g3 5 (List.map rSector l)), none, (ownO v2 g6 3 (List.map rConfig l1)), none, (ownO v4 g9 5 (List.map rSegment l2)), none, (ownO v6 g12 7 (List.map rRoute l3)), none, (ownO v8 g15 8 (List.map rRule l4))]) [] ?_ ?_ ?_
          · exact ⟨.emp, 0, .nil, rfl, rfl⟩
          · rintro j4 a5 ha5 W hW4 l4 fr h ⟨v8, g15, vH8, rfl, rfl⟩
            refine wr_mod (m' := ref08_Unnumbered_b5 a5 l4) rfl (wr_mod (ref08_Unnumbered_b5.eq_1 _ _) ?_)
            refine wr_seq ?_
            refine wr_seq ?_
            refine wr_region ?_
            refine wo_val (.int .i64 (j4 : Int)) rfl pv_move ?_
            refine wo_val (.ptr (ix ids 0) g 0 7) rfl (pv_fa (fa_ptr (c := 0) (off := 7) (i := 7) ti31 rfl ti29 rfl)) ?_
            refine wo_val (.sl 8 (List.map rRule a.Rules)) rfl (pv_load (ld_ptr hI rfl rfl rfl ti29 rfl)) ?_
            refine wo_val (.int .i64 (a.Rules.length : Int)) rfl (pv_len (len_sl ti29)) ?_
            refine wo_val (.bool (decide ((j4 : Int) < (a.Rules.length : Int)))) rfl (pv_bin rfl rfl rfl) ?_
            refine wo_nil ?_
            refine wr_lim (t := 101) (L := a.Rules) rfl fun hlim9 => ?_
            refine wr_condT rfl (Int.ofNat_lt.2 (lt_of_get ha5)) ?_
            refine wr_skip ?_
            refine wr_seq ?_
            refine wr_block ?_
            refine wr_seq ?_
            refine wr_region ?_
            refine wo_val (.ptr (ix ids 0) g 0 7) rfl (pv_fa (fa_ptr (c := 0) (off := 7) (i := 7) ti31 rfl ti29 rfl)) ?_
            refine wo_val (.sl 8 (List.map rRule a.Rules)) rfl (pv_load (ld_ptr hI rfl rfl rfl ti29 rfl)) ?_
            refine wo_val (.int .i64 (j4 : Int)) rfl pv_move ?_
            refine wo_val (.cp (rRule a5) 0) rfl (pv_ixa (ixa_nat ti29 ti63 rfl ha5)) ?_
            refine wo_val (.agg (rRule a5)) rfl (pv_load (ld_cp ti63 rfl)) ?_
            refine wo_alloc (j := 11) hI rfl rfl rfl rfl ti63 rfl fun g16 => ?_
            refine wo_store (st_ptr hI rfl rfl rfl rfl ti63 rfl rfl rfl rfl rfl) ?_
            refine wo_nil ?_
            refine wr_hp [(some (.rows g 8 [(rAirspace a)])), (some (.rows g1 8 [[.emp, .emp, .emp, .emp, .emp, .emp, .emp, .emp]])), (some (.rows g2 8 [[(.sl 2 (List.map rVolume a.Volumes)), v, v2, v4, v6, (.sl 2 (List.map rAirport a.Airports)), (.sl 4 (List.map rClass a.Classes)), v8]])), none, (ownO v g3 5 (List.map rSector l)), none, (ownO v2 g6 3 (List.map rConfig l1)), none, (ownO v4 g9 5 (List.map rSegment l2)), none, (ownO v6 g12 7 (List.map rRoute l3)), (some (.rows g16 8 [(rRule a5)])), (ownO v8 g15 8 (List.map rRule l4))] rfl ?_
            refine wr_seq ?_
            refine wr_region ?_
            refine wo_val (.ptr (ix ids 11) g16 0 3) rfl (pv_fa (fa_ptr (c := 0) (off := 3) (i := 3) ti63 rfl ti3 rfl)) ?_
            refine wo_store (st_ptr hI rfl rfl rfl rfl ti3 rfl rfl rfl rfl rfl) ?_
            refine wo_nil ?_
            refine wr_hp [(some (.rows g 8 [(rAirspace a)])), (some (.rows g1 8 [[.emp, .emp, .emp, .emp, .emp, .emp, .emp, .emp]])), (some (.rows g2 8 [[(.sl 2 (List.map rVolume a.Volumes)), v, v2, v4, v6, (.sl 2 (List.map rAirport a.Airports)), (.sl 4 (List.map rClass a.Classes)), v8]])), none, (ownO v g3 5 (List.map rSector l)), none, (ownO v2 g6 3 (List.map rConfig l1)), none, (ownO v4 g9 5 (List.map rSegment l2)), none, (ownO v6 g12 7 (List.map rRoute l3)), (some (.rows g16 8 [[(.int .i64 a5.Kind), (.str a5.C), (.str a5.A), (.int .i64 0), (.int .i64 a5.Airport), (.int .i64 a5.N), (.int .i64 a5.Hours.From), (.int .i64 a5.Hours.To)]])), (ownO v8 g15 8 (List.map rRule l4))] rfl ?_
            refine wr_seq ?_
            refine wr_region ?_
            refine wo_val (.ptr (ix ids 11) g16 0 4) rfl (pv_fa (fa_ptr (c := 0) (off := 4) (i := 4) ti63 rfl ti3 rfl)) ?_
            refine wo_store (st_ptr hI rfl rfl rfl rfl ti3 rfl rfl rfl rfl rfl) ?_
            refine wo_nil ?_
            refine wr_hp [(some (.rows g 8 [(rAirspace a)])), (some (.rows g1 8 [[.emp, .emp, .emp, .emp, .emp, .emp, .emp, .emp]])), (some (.rows g2 8 [[(.sl 2 (List.map rVolume a.Volumes)), v, v2, v4, v6, (.sl 2 (List.map rAirport a.Airports)), (.sl 4 (List.map rClass a.Classes)), v8]])), none, (ownO v g3 5 (List.map rSector l)), none, (ownO v2 g6 3 (List.map rConfig l1)), none, (ownO v4 g9 5 (List.map rSegment l2)), none, (ownO v6 g12 7 (List.map rRoute l3)), (some (.rows g16 8 [[(.int .i64 a5.Kind), (.str a5.C), (.str a5.A), (.int .i64 0), (.int .i64 0), (.int .i64 a5.N), (.int .i64 a5.Hours.From), (.int .i64 a5.Hours.To)]])), (ownO v8 g15 8 (List.map rRule l4))] rfl ?_
            refine wr_region ?_
            refine wo_val (.ptr (ix ids 2) g2 0 7) rfl (pv_fa (fa_ptr (c := 0) (off := 7) (i := 7) ti31 rfl ti29 rfl)) ?_
            refine wo_val v8 rfl (pv_load (ld_ptr hI rfl rfl rfl ti29 rfl)) ?_
            refine wo_val (.agg [(.int .i64 a5.Kind), (.str a5.C), (.str a5.A), (.int .i64 0), (.int .i64 0), (.int .i64 a5.N), (.int .i64 a5.Hours.From), (.int .i64 a5.Hours.To)]) rfl (pv_load (ld_ptr hI rfl rfl rfl ti63 rfl)) ?_
            refine wo_bsC (e := rRule) (L := [({ Kind := a5.Kind, C := a5.C, A := a5.A, Class := 0, Airport := 0, N := a5.N, Hours := a5.Hours } : Rule)]) (st := 8) (rows := [[(.int .i64 a5.Kind), (.str a5.C), (.str a5.A), (.int .i64 0), (.int .i64 0), (.int .i64 a5.N), (.int .i64 a5.Hours.From), (.int .i64 a5.Hours.To)]]) rfl ti29 ti63 rfl rfl rfl rfl rfl (.cons (.cons (.same _) (.cons (.same _) (.cons (.same _) (.cons (.same _) (.cons (.same _) (.cons (.same _) (.cons (.same _) (.cons (.same _) .nil)))))))) .nil) (fun x => ok_Rule x) rfl rfl ?_
            refine of_need fun hl4 => ?_
            refine wo_append (e := rRule) (L := l4) (L2 := [({ Kind := a5.Kind, C := a5.C, A := a5.A, Class := 0, Airport := 0, N := a5.N, Hours := a5.Hours } : Rule)]) (v := v8) (g := g15) (st := 8) (j := 12) hI rfl rfl rfl rfl vH8 rfl (src_sl rfl) ti29 ti29 rfl ti63 rfl rfl rfl hl4 fun v9 g17 vH9 => ?_
            refine wo_val (.ptr (ix ids 2) g2 0 7) rfl (pv_fa (fa_ptr (c := 0) (off := 7) (i := 7) ti31 rfl ti29 rfl)) ?_
            refine wo_store (st_ptrO vH9 hI rfl rfl rfl rfl ti29 rfl rfl rfl) ?_
            refine wo_nil ?_
            refine wr_hp [(some (.rows g 8 [(rAirspace a)])), (some (.rows g1 8 [[.emp, .emp, .emp, .emp, .emp, .emp, .emp, .emp]])), (some (.rows g2 8 [[(.sl 2 (List.map rVolume a.Volumes)), v, v2, v4, v6, (.sl 2 (List.map rAirport a.Airports)), (.sl 4 (List.map rClass a.Classes)), v9]])), none, (ownO v g3 5 (List.map rSector l)), none, (ownO v2 g6 3 (List.map rConfig l1)), none, (ownO v4 g9 5 (List.map rSegment l2)), none, (ownO v6 g12 7 (List.map rRoute l3)), (some (.rows g16 8 [[(.int .i64 a5.Kind), (.str a5.C), (.str a5.A), (.int .i64 0), (.int .i64 0), (.int .i64 a5.N), (.int .i64 a5.Hours.From), (.int .i64 a5.Hours.To)]])), (ownO v9 g17 8 (List.map rRule (l4 ++ [({ Kind := a5.Kind, C := a5.C, A := a5.A, Class := 0, Airport := 0, N := a5.N, Hours := a5.Hours } : Rule)])))] rfl ?_
            refine wr_inBlock ?_
            refine wr_region ?_
            refine wo_val (.int .i64 (j4 : Int)) rfl pv_move ?_
            refine wo_val (.int .i64 (IntKind.wrap .i64 ((j4 : Int) + 1))) rfl (pv_bin rfl rfl rfl) ?_
            refine wo_val (.int .i64 (IntKind.wrap .i64 ((j4 : Int) + 1))) rfl pv_assign ?_
            refine wo_nil ?_
            refine wr_drop [(some (.rows g 8 [(rAirspace a)])), (some (.rows g1 8 [[.emp, .emp, .emp, .emp, .emp, .emp, .emp, .emp]])), (some (.rows g2 8 [[(.sl 2 (List.map rVolume a.Volumes)), v, v2, v4, v6, (.sl 2 (List.map rAirport a.Airports)), (.sl 4 (List.map rClass a.Classes)), v9]])), none, (ownO v g3 5 (List.map rSector l)), none, (ownO v2 g6 3 (List.map rConfig l1)), none, (ownO v4 g9 5 (List.map rSegment l2)), none, (ownO v6 g12 7 (List.map rRoute l3)), none, (ownO v9 g17 8 (List.map rRule (l4 ++ [({ Kind := a5.Kind, C := a5.C, A := a5.A, Class := 0, Airport := 0, N := a5.N, Hours := a5.Hours } : Rule)])))] hI rfl (.keep (.keep (.keep (.keep (.keep (.keep (.keep (.keep (.keep (.keep (.keep (.drop (.keep .nil))))))))))))) ?_
            refine wr_is [(1, (.ptr (ix ids 0) g 0 0)), (2, (.ptr (ix ids 1) g1 0 0)), (3, (.ptr (ix ids 2) g2 0 0)), (12, (.int .i64 ((j4 + 1 : Nat) : Int)))] (.cons rfl (.cons rfl (.cons rfl (.cons (inc_ok (lt_of_get ha5) hlim9) .nil)))) ?_
            refine wb_S ?_
            refine hW4 (l4 ++ [({ Kind := a5.Kind, C := a5.C, A := a5.A, Class := 0, Airport := 0, N := a5.N, Hours := a5.Hours } : Rule)]) _ _ ?_
            exact ⟨v9, g17, vH9, rfl, rfl⟩
          · rintro l4 fr h ⟨v8, g15, vH8, rfl, rfl⟩
            refine wr_seq ?_
            refine wr_seq ?_
            refine wr_region ?_
            refine wo_val (.int .i64 (a.Rules.length : Int)) rfl pv_move ?_
            refine wo_val (.ptr (ix ids 0) g 0 7) rfl (pv_fa (fa_ptr (c := 0) (off := 7) (i := 7) ti31 rfl ti29 rfl)) ?_
            refine wo_val (.sl 8 (List.map rRule a.Rules)) rfl (pv_load (ld_ptr hI rfl rfl rfl ti29 rfl)) ?_
            refine wo_val (.int .i64 (a.Rules.length : Int)) rfl (pv_len (len_sl ti29)) ?_
            refine wo_val (.bool (decide ((a.Rules.length : Int) < (a.Rules.length : Int)))) rfl (pv_bin rfl rfl rfl) ?_
            refine wo_nil ?_
            refine wr_condF rfl (Int.lt_irrefl _) ?_
            refine wr_exit rfl ?_
            refine wr_seq ?_
            refine wr_region ?_
            refine wo_val (.agg [(.sl 2 (List.map rVolume a.Volumes)), v, v2, v4, v6, (.sl 2 (List.map rAirport a.Airports)), (.sl 4 (List.map rClass a.Classes)), v8]) rfl (pv_load (ld_ptr hI rfl rfl rfl ti31 rfl)) ?_
            refine wo_store (st_ptr hI rfl rfl rfl rfl ti31 rfl rfl rfl rfl (flat_cons rfl (flat_cons (OwnV.flat vH) (flat_cons (OwnV.flat vH2) (flat_cons (OwnV.flat vH4) (flat_cons (OwnV.flat vH6) (flat_cons rfl (flat_cons rfl (flat_cons (OwnV.flat vH8) flat_nil))))))))) ?_
            refine wo_nil ?_
            refine wr_hp [(some (.rows g 8 [(rAirspace a)])), (some (.rows g1 8 [[(.sl 2 (List.map rVolume a.Volumes)), v, v2, v4, v6, (.sl 2 (List.map rAirport a.Airports)), (.sl 4 (List.map rClass a.Classes)), v8]])), (some (.rows g2 8 [[(.sl 2 (List.map rVolume a.Volumes)), v, v2, v4, v6, (.sl 2 (List.map rAirport a.Airports)), (.sl 4 (List.map rClass a.Classes)), v8]])), none, (ownO v g3 5 (List.map rSector l)), none, (ownO v2 g6 3 (List.map rConfig l1)), none, (ownO v4 g9 5 (List.map rSegment l2)), none, (ownO v6 g12 7 (List.map rRoute l3)), none, (ownO v8 g15 8 (List.map rRule l4))] rfl ?_
            exact wr_ret (a := ({ Volumes := a.Volumes, Sectors := l, Configs := l1, Segments := l2, Routes := l3, Airports := a.Airports, Classes := a.Classes, Rules := l4 } : Airspace)) (vs := [(.agg [(.sl 2 (List.map rVolume a.Volumes)), v, v2, v4, v6, (.sl 2 (List.map rAirport a.Airports)), (.sl 4 (List.map rClass a.Classes)), v8])]) Try.func21 hI (ares_cell (ld_ptr hI rfl rfl rfl ti31 rfl) ares_nil) (.aggL (.cons (.same _) (.cons (own_fz vH (hI.at rfl rfl) (hI.out rfl) (fun x => ok_Sector x)) (.cons (own_fz vH2 (hI.at rfl rfl) (hI.out rfl) (fun x => ok_Config x)) (.cons (own_fz vH4 (hI.at rfl rfl) (hI.out rfl) (fun x => ok_Segment x)) (.cons (own_fz vH6 (hI.at rfl rfl) (hI.out rfl) (fun x => ok_Route x)) (.cons (.same _) (.cons (.same _) (.cons (own_fz vH8 (hI.at rfl rfl) (hI.out rfl) (fun x => ok_Rule x)) .nil)))))))))

theorem cp_law09_NamesAgain (a : Airspace) : CP Try.prog 6 [(.agg (rAirspace a))] (law09_NamesAgain a) (fun (x : Bool) => (AV.bool x)) := by
  refine cp_intro (n := 50) 4 Try.func6 rfl (by decide) rfl rfl fun h0 ids hI => ?_
  refine wr_in (wr_mod (law09_NamesAgain.eq_1 _) ?_)
  refine wr_seq ?_
  refine wr_region ?_
  refine wo_box (v := (.agg (rAirspace a))) (j := 0) hI rfl rfl rfl rfl rfl rfl rfl fun g => ?_
  refine wo_val (.bool false) rfl pv_assign ?_
  refine wo_nil ?_
  refine wr_hp [(some (.rows g 8 [(rAirspace a)])), none, none, none] rfl ?_
  refine wr_seq ?_
  refine wr_seq ?_
  refine wr_region ?_
  refine of_call [] rfl rfl rfl rfl ((cp_law09_sane) _) (fun v _ => wu_pan Try.func6 hI) fun r _ => ?_
  refine wo_val (.bool (!r)) rfl (pv_un rfl) ?_
  refine wo_nil ?_
  refine wf_itebn rfl (fun hc => ?_) (fun hc => ?_)
  · refine wr_skip ?_
    refine wr_seq ?_
    refine wr_seq ?_
    refine wr_region ?_
    refine wo_val (.agg (rAirspace a)) rfl (pv_load (ld_ptr hI rfl rfl rfl ti31 rfl)) ?_
    refine of_call [(.agg (rAirspace a))] rfl rfl rfl rfl ((cp_ref09_Few a) _) (fun v _ => wu_pan Try.func6 hI) fun r1 _ => ?_
    refine wo_val (.bool (!r1)) rfl (pv_un rfl) ?_
    refine wo_nil ?_
    refine wf_itebn rfl (fun hc1 => ?_) (fun hc1 => ?_)
    · refine wr_skip ?_
      refine wr_seq ?_
      refine wr_region ?_
      refine wo_val (.agg (rAirspace a)) rfl (pv_load (ld_ptr hI rfl rfl rfl ti31 rfl)) ?_
      refine of_call [(.agg (rAirspace a))] rfl rfl rfl rfl ((cp_names_Resolve a) _) (fun v _ => wu_pan Try.func6 hI) fun r2 _ => ?_
      refine wo_val (.tup [(.agg (rAirspace r2.1)), (.int .i64 r2.2)]) rfl pv_move ?_
      refine wo_val (.agg (rAirspace r2.1)) rfl (pv_ext rfl) ?_
      refine wo_val (.int .i64 r2.2) rfl (pv_ext rfl) ?_
      refine wo_alloc (j := 1) hI rfl rfl rfl rfl ti31 rfl fun g1 => ?_
      refine wo_store (st_ptr hI rfl rfl rfl rfl ti31 rfl rfl rfl rfl rfl) ?_
      refine wo_val (.int .i64 r2.2) rfl pv_assign ?_
      refine wo_nil ?_
      refine wr_hp [(some (.rows g 8 [(rAirspace a)])), (some (.rows g1 8 [(rAirspace r2.1)])), none, none] rfl ?_
      refine wr_seq ?_
      refine wr_region ?_
      refine wo_val (.agg (rAirspace a)) rfl (pv_load (ld_ptr hI rfl rfl rfl ti31 rfl)) ?_
      refine of_call [(.agg (rAirspace a))] rfl rfl rfl rfl ((cp_ref08_Unnumbered a) _) (fun v _ => wu_pan Try.func6 hI) fun r3 _ => ?_
      refine of_call [(.agg (rAirspace r3))] rfl rfl rfl rfl ((cp_names_Resolve r3) _) (fun v _ => wu_pan Try.func6 hI) fun r4 _ => ?_
      refine wo_val (.tup [(.agg (rAirspace r4.1)), (.int .i64 r4.2)]) rfl pv_move ?_
      refine wo_val (.agg (rAirspace r4.1)) rfl (pv_ext rfl) ?_
      refine wo_val (.int .i64 r4.2) rfl (pv_ext rfl) ?_
      refine wo_alloc (j := 2) hI rfl rfl rfl rfl ti31 rfl fun g2 => ?_
      refine wo_store (st_ptr hI rfl rfl rfl rfl ti31 rfl rfl rfl rfl rfl) ?_
      refine wo_val (.int .i64 r4.2) rfl pv_assign ?_
      refine wo_nil ?_
      refine wr_hp [(some (.rows g 8 [(rAirspace a)])), (some (.rows g1 8 [(rAirspace r2.1)])), (some (.rows g2 8 [(rAirspace r4.1)])), none] rfl ?_
      refine wr_seq ?_
      refine wr_seq ?_
      refine wr_region ?_
      refine wo_val (.int .i64 r2.2) rfl pv_move ?_
      refine wo_val (.int .i64 r4.2) rfl pv_move ?_
      refine wo_val (.bool (r2.2 != r4.2)) rfl (pv_bin rfl rfl rfl) ?_
      refine wo_val (.bool (r2.2 != r4.2)) rfl pv_move ?_
      refine wo_join 5 ((fun (b : Bool) => if b then
(.ok false)
else
((names_Resolve r2.1).bind fun r6 =>
  (if (r2.2 != 0) then .ok true else (if (r6.2 == 0) then (ref08_Same r6.1 r2.1).bind fun r7 =>
  .ok r7 else .ok false).bind (fun (b2 : Bool) => .ok b2)).bind (fun (b1 : Bool) => .ok b1))) : Bool → R Bool) (fun (b : Bool) (fr : Nat → AV) (h : AHeap) => fr = frA [(3, (.ptr (ix ids 1) g1 0 0)), (4, (.int .i64 r2.2)), (33, (.bool b))] ∧ h = hp h0 ids [(some (.rows g 8 [(rAirspace a)])), (some (.rows g1 8 [(rAirspace r2.1)])), (some (.rows g2 8 [(rAirspace r4.1)])), none]) ?_ fun hJ => of_if1 (fun hb1 => ?_) (fun hb1 => ?_)
      · rintro b fr h ⟨rfl, rfl⟩
        refine wo_nil ?_
        refine wf_iteb rfl (fun hc2 => ?_) (fun hc2 => ?_)
        · refine wr_seq ?_
          refine wr_region ?_
          refine wo_val (.bool false) rfl pv_assign ?_
          refine wo_nil ?_
          exact wr_ret (a := false) (vs := [(.bool false)]) Try.func6 hI rfl (.same _)
        · refine wr_skip ?_
          refine wr_seq ?_
          refine wr_region ?_
          refine wo_val (.agg (rAirspace r2.1)) rfl (pv_load (ld_ptr hI rfl rfl rfl ti31 rfl)) ?_
          refine of_call [(.agg (rAirspace r2.1))] rfl rfl rfl rfl ((cp_names_Resolve r2.1) _) (fun v _ => wu_pan Try.func6 hI) fun r6 _ => ?_
          refine wo_val (.tup [(.agg (rAirspace r6.1)), (.int .i64 r6.2)]) rfl pv_move ?_
          refine wo_val (.agg (rAirspace r6.1)) rfl (pv_ext rfl) ?_
          refine wo_val (.int .i64 r6.2) rfl (pv_ext rfl) ?_
          refine wo_alloc (j := 3) hI rfl rfl rfl rfl ti31 rfl fun g3 => ?_
          refine wo_store (st_ptr hI rfl rfl rfl rfl ti31 rfl rfl rfl rfl rfl) ?_
          refine wo_val (.int .i64 r6.2) rfl pv_assign ?_
          refine wo_nil ?_
          refine wr_hp [(some (.rows g 8 [(rAirspace a)])), (some (.rows g1 8 [(rAirspace r2.1)])), (some (.rows g2 8 [(rAirspace r4.1)])), (some (.rows g3 8 [(rAirspace r6.1)]))] rfl ?_
          refine wr_seq ?_
          refine wr_region ?_
          refine wo_val (.int .i64 r2.2) rfl pv_move ?_
          refine wo_val (.bool (r2.2 != 0)) rfl (pv_bin rfl rfl rfl) ?_
          refine wo_val (.bool (r2.2 != 0)) rfl pv_move ?_
          refine wo_join 8 ((fun (b1 : Bool) => .ok b1) : Bool → R Bool) (fun (b1 : Bool) (fr : Nat → AV) (h : AHeap) => fr = frA [(49, (.bool b1))] ∧ h = hp h0 ids [(some (.rows g 8 [(rAirspace a)])), (some (.rows g1 8 [(rAirspace r2.1)])), (some (.rows g2 8 [(rAirspace r4.1)])), (some (.rows g3 8 [(rAirspace r6.1)]))]) ?_ fun hJ1 => of_if1 (fun hb3 => ?_) (fun hb3 => ?_)
          · rintro b1 fr h ⟨rfl, rfl⟩
            refine wo_val (.bool b1) rfl pv_assign ?_
            refine wo_nil ?_
            exact wr_ret (a := b1) (vs := [(.bool b1)]) Try.func6 hI rfl (.same _)
          · refine wo_not (tj := 41) (b := true) rfl (congrArg AV.bool hb3) rfl rfl ?_
            refine wo_not (tj := 41) (b := true) rfl (congrArg AV.bool hb3) rfl rfl ?_
            refine wo_not (tj := 41) (b := true) rfl (congrArg AV.bool hb3) rfl rfl ?_
            refine wo_notu (tj := 44) rfl rfl rfl ?_
            refine wo_notu (tj := 44) rfl rfl rfl ?_
            refine wo_notu (tj := 44) rfl rfl rfl ?_
            refine wo_not (tj := 41) (b := true) rfl (congrArg AV.bool hb3) rfl rfl ?_
            refine wo_val (.bool true) rfl (pv_pick (t := true) (congrArg AV.bool hb3) rfl) ?_
            refine wo_back1 ?_
            refine wo_is [(49, (.bool true))] (.cons rfl .nil) ?_
            exact hJ1 true _ _ ⟨rfl, rfl⟩
          · refine wo_valg (tj := 41) (.int .i64 r6.2) rfl (congrArg AV.bool hb3) rfl pv_move ?_
            refine wo_valg (tj := 41) (.bool (r6.2 == 0)) rfl (congrArg AV.bool hb3) rfl (pv_bin rfl rfl rfl) ?_
            refine wo_valg (tj := 41) (.bool (r6.2 == 0)) rfl (congrArg AV.bool hb3) rfl pv_move ?_
            refine wo_join 4 ((fun (b2 : Bool) => .ok b2) : Bool → R Bool) (fun (b2 : Bool) (fr : Nat → AV) (h : AHeap) => fr = frA [(41, (.bool (r2.2 != 0))), (48, (.bool b2))] ∧ h = hp h0 ids [(some (.rows g 8 [(rAirspace a)])), (some (.rows g1 8 [(rAirspace r2.1)])), (some (.rows g2 8 [(rAirspace r4.1)])), (some (.rows g3 8 [(rAirspace r6.1)]))]) ?_ fun hJ2 => of_if1 (fun hb5 => ?_) (fun hb5 => ?_)
            · rintro b2 fr h ⟨rfl, rfl⟩
              refine wo_val (.bool b2) rfl (pv_pick (t := false) (congrArg AV.bool hb3) rfl) ?_
              refine wo_back1 ?_
              refine wo_is [(49, (.bool b2))] (.cons rfl .nil) ?_
              exact hJ1 b2 _ _ ⟨rfl, rfl⟩
            · refine wo_valg (tj := 44) (.agg (rAirspace r6.1)) rfl (congrArg AV.bool hb5) rfl (pv_load (ld_ptr hI rfl rfl rfl ti31 rfl)) ?_
              refine wo_valg (tj := 44) (.agg (rAirspace r2.1)) rfl (congrArg AV.bool hb5) rfl (pv_load (ld_ptr hI rfl rfl rfl ti31 rfl)) ?_
              refine of_call [(.agg (rAirspace r6.1)), (.agg (rAirspace r2.1))] rfl (wanted_yes (tj := 44) rfl (congrArg AV.bool hb5)) rfl rfl ((cp_ref08_Same r6.1 r2.1) _) (fun v _ => wu_pan Try.func6 hI) fun r7 _ => ?_
              refine wo_valg (tj := 41) (.bool r7) rfl (congrArg AV.bool hb3) rfl (pv_pick (t := true) (congrArg AV.bool hb5) rfl) ?_
              refine wo_back1 ?_
              refine wo_is [(41, (.bool (r2.2 != 0))), (48, (.bool r7))] (.cons rfl (.cons rfl .nil)) ?_
              exact hJ2 r7 _ _ ⟨rfl, rfl⟩
            · refine wo_not (tj := 44) (b := false) rfl (congrArg AV.bool hb5) rfl rfl ?_
              refine wo_not (tj := 44) (b := false) rfl (congrArg AV.bool hb5) rfl rfl ?_
              refine wo_not (tj := 44) (b := false) rfl (congrArg AV.bool hb5) rfl rfl ?_
              refine wo_valg (tj := 41) (.bool false) rfl (congrArg AV.bool hb3) rfl (pv_pick (t := false) (congrArg AV.bool hb5) rfl) ?_
              refine wo_back1 ?_
              refine wo_is [(41, (.bool (r2.2 != 0))), (48, (.bool false))] (.cons rfl (.cons rfl .nil)) ?_
              exact hJ2 false _ _ ⟨rfl, rfl⟩
      · refine wo_not (tj := 28) (b := true) rfl (congrArg AV.bool hb1) rfl rfl ?_
        refine wo_not (tj := 28) (b := true) rfl (congrArg AV.bool hb1) rfl rfl ?_
        refine wo_not (tj := 28) (b := true) rfl (congrArg AV.bool hb1) rfl rfl ?_
        refine wo_not (tj := 28) (b := true) rfl (congrArg AV.bool hb1) rfl rfl ?_
        refine wo_val (.bool true) rfl (pv_pick (t := true) (congrArg AV.bool hb1) rfl) ?_
        refine wo_back1 ?_
        refine wo_is [(3, (.ptr (ix ids 1) g1 0 0)), (4, (.int .i64 r2.2)), (33, (.bool true))] (.cons rfl (.cons rfl (.cons rfl .nil))) ?_
        exact hJ true _ _ ⟨rfl, rfl⟩
      · refine wo_valg (tj := 28) (.agg (rAirspace r2.1)) rfl (congrArg AV.bool hb1) rfl (pv_load (ld_ptr hI rfl rfl rfl ti31 rfl)) ?_
        refine wo_valg (tj := 28) (.agg (rAirspace r4.1)) rfl (congrArg AV.bool hb1) rfl (pv_load (ld_ptr hI rfl rfl rfl ti31 rfl)) ?_
        refine of_call [(.agg (rAirspace r2.1)), (.agg (rAirspace r4.1))] rfl (wanted_yes (tj := 28) rfl (congrArg AV.bool hb1)) rfl rfl ((cp_ref08_Same r2.1 r4.1) _) (fun v _ => wu_pan Try.func6 hI) fun r5 _ => ?_
        refine wo_valg (tj := 28) (.bool (!r5)) rfl (congrArg AV.bool hb1) rfl (pv_un rfl) ?_
        refine wo_val (.bool (!r5)) rfl (pv_pick (t := false) (congrArg AV.bool hb1) rfl) ?_
        refine wo_back1 ?_
        refine wo_is [(3, (.ptr (ix ids 1) g1 0 0)), (4, (.int .i64 r2.2)), (33, (.bool (!r5)))] (.cons rfl (.cons rfl (.cons rfl .nil))) ?_
        exact hJ (!r5) _ _ ⟨rfl, rfl⟩
    · refine wr_seq ?_
      refine wr_region ?_
      refine wo_val (.bool true) rfl pv_assign ?_
      refine wo_nil ?_
      exact wr_ret (a := true) (vs := [(.bool true)]) Try.func6 hI rfl (.same _)
  · refine wr_seq ?_
    refine wr_region ?_
    refine wo_val (.bool false) rfl pv_assign ?_
    refine wo_nil ?_
    exact wr_ret (a := false) (vs := [(.bool false)]) Try.func6 hI rfl (.same _)
end Go.Am

/- The models hold of the program. Written by dc.py. -/
import Derived.Test.YtjpafocobkhciaaNmW1
namespace Go.Am
open Go Go.Proofs
set_option maxRecDepth 100000
set_option linter.unusedSimpArgs false
set_option linter.unusedVariables false
theorem cp_ref09_Few (a : Airspace) : CP Try.prog 11 [(.agg (rAirspace a))] (ref09_Few a) (fun (x : Bool) => (AV.bool x)) := by
  refine cp_intro (n := 107) 1 Try.func11 rfl (by decide) rfl rfl fun h0 ids hI => ?_
  refine wr_in (wr_mod (ref09_Few.eq_1 _) ?_)
  refine wr_seq ?_
  refine wr_region ?_
  refine wo_box (v := (.agg (rAirspace a))) (j := 0) hI rfl rfl rfl rfl rfl rfl rfl fun g => ?_
  refine wo_val (.bool false) rfl pv_assign ?_
  refine wo_nil ?_
  refine wr_hp [(some (.rows g 8 [(rAirspace a)]))] rfl ?_
  refine wr_seq ?_
  refine wr_region ?_
  refine wo_val (.ptr (ix ids 0) g 0 0) rfl (pv_fa (fa_ptr (c := 0) (off := 0) (i := 0) ti31 rfl ti22 rfl)) ?_
  refine wo_val (.sl 2 (List.map rVolume a.Volumes)) rfl (pv_load (ld_ptr hI rfl rfl rfl ti22 rfl)) ?_
  refine wo_val (.int .i64 (a.Volumes.length : Int)) rfl (pv_len (len_sl ti22)) ?_
  refine wo_val (.ptr (ix ids 0) g 0 1) rfl (pv_fa (fa_ptr (c := 0) (off := 1) (i := 1) ti31 rfl ti23 rfl)) ?_
  refine wo_val (.sl 5 (List.map rSector a.Sectors)) rfl (pv_load (ld_ptr hI rfl rfl rfl ti23 rfl)) ?_
  refine wo_val (.int .i64 (a.Sectors.length : Int)) rfl (pv_len (len_sl ti23)) ?_
  refine wo_val (.int .i64 (IntKind.wrap .i64 ((a.Volumes.length : Int) + (a.Sectors.length : Int)))) rfl (pv_bin rfl rfl rfl) ?_
  refine wo_val (.ptr (ix ids 0) g 0 2) rfl (pv_fa (fa_ptr (c := 0) (off := 2) (i := 2) ti31 rfl ti24 rfl)) ?_
  refine wo_val (.sl 3 (List.map rConfig a.Configs)) rfl (pv_load (ld_ptr hI rfl rfl rfl ti24 rfl)) ?_
  refine wo_val (.int .i64 (a.Configs.length : Int)) rfl (pv_len (len_sl ti24)) ?_
  refine wo_val (.int .i64 (IntKind.wrap .i64 ((IntKind.wrap .i64 ((a.Volumes.length : Int) + (a.Sectors.length : Int))) + (a.Configs.length : Int)))) rfl (pv_bin rfl rfl rfl) ?_
  refine wo_val (.ptr (ix ids 0) g 0 3) rfl (pv_fa (fa_ptr (c := 0) (off := 3) (i := 3) ti31 rfl ti25 rfl)) ?_
  refine wo_val (.sl 5 (List.map rSegment a.Segments)) rfl (pv_load (ld_ptr hI rfl rfl rfl ti25 rfl)) ?_
  refine wo_val (.int .i64 (a.Segments.length : Int)) rfl (pv_len (len_sl ti25)) ?_
  refine wo_val (.int .i64 (IntKind.wrap .i64 ((IntKind.wrap .i64 ((IntKind.wrap .i64 ((a.Volumes.length : Int) + (a.Sectors.length : Int))) + (a.Configs.length : Int))) + (a.Segments.length : Int)))) rfl (pv_bin rfl rfl rfl) ?_
  refine wo_val (.ptr (ix ids 0) g 0 4) rfl (pv_fa (fa_ptr (c := 0) (off := 4) (i := 4) ti31 rfl ti26 rfl)) ?_
  refine wo_val (.sl 7 (List.map rRoute a.Routes)) rfl (pv_load (ld_ptr hI rfl rfl rfl ti26 rfl)) ?_
  refine wo_val (.int .i64 (a.Routes.length : Int)) rfl (pv_len (len_sl ti26)) ?_
  refine wo_val (.int .i64 (IntKind.wrap .i64 ((IntKind.wrap .i64 ((IntKind.wrap .i64 ((IntKind.wrap .i64 ((a.Volumes.length : Int) + (a.Sectors.length : Int))) + (a.Configs.length : Int))) + (a.Segments.length : Int))) + (a.Routes.length : Int)))) rfl (pv_bin rfl rfl rfl) ?_
  refine wo_val (.ptr (ix ids 0) g 0 5) rfl (pv_fa (fa_ptr (c := 0) (off := 5) (i := 5) ti31 rfl ti27 rfl)) ?_
  refine wo_val (.sl 2 (List.map rAirport a.Airports)) rfl (pv_load (ld_ptr hI rfl rfl rfl ti27 rfl)) ?_
  refine wo_val (.int .i64 (a.Airports.length : Int)) rfl (pv_len (len_sl ti27)) ?_
  refine wo_val (.int .i64 (IntKind.wrap .i64 ((IntKind.wrap .i64 ((IntKind.wrap .i64 ((IntKind.wrap .i64 ((IntKind.wrap .i64 ((a.Volumes.length : Int) + (a.Sectors.length : Int))) + (a.Configs.length : Int))) + (a.Segments.length : Int))) + (a.Routes.length : Int))) + (a.Airports.length : Int)))) rfl (pv_bin rfl rfl rfl) ?_
  refine wo_val (.ptr (ix ids 0) g 0 6) rfl (pv_fa (fa_ptr (c := 0) (off := 6) (i := 6) ti31 rfl ti28 rfl)) ?_
  refine wo_val (.sl 4 (List.map rClass a.Classes)) rfl (pv_load (ld_ptr hI rfl rfl rfl ti28 rfl)) ?_
  refine wo_val (.int .i64 (a.Classes.length : Int)) rfl (pv_len (len_sl ti28)) ?_
  refine wo_val (.int .i64 (IntKind.wrap .i64 ((IntKind.wrap .i64 ((IntKind.wrap .i64 ((IntKind.wrap .i64 ((IntKind.wrap .i64 ((IntKind.wrap .i64 ((a.Volumes.length : Int) + (a.Sectors.length : Int))) + (a.Configs.length : Int))) + (a.Segments.length : Int))) + (a.Routes.length : Int))) + (a.Airports.length : Int))) + (a.Classes.length : Int)))) rfl (pv_bin rfl rfl rfl) ?_
  refine wo_val (.ptr (ix ids 0) g 0 7) rfl (pv_fa (fa_ptr (c := 0) (off := 7) (i := 7) ti31 rfl ti29 rfl)) ?_
  refine wo_val (.sl 8 (List.map rRule a.Rules)) rfl (pv_load (ld_ptr hI rfl rfl rfl ti29 rfl)) ?_
  refine wo_val (.int .i64 (a.Rules.length : Int)) rfl (pv_len (len_sl ti29)) ?_
  refine wo_val (.int .i64 (IntKind.wrap .i64 ((IntKind.wrap .i64 ((IntKind.wrap .i64 ((IntKind.wrap .i64 ((IntKind.wrap .i64 ((IntKind.wrap .i64 ((IntKind.wrap .i64 ((a.Volumes.length : Int) + (a.Sectors.length : Int))) + (a.Configs.length : Int))) + (a.Segments.length : Int))) + (a.Routes.length : Int))) + (a.Airports.length : Int))) + (a.Classes.length : Int))) + (a.Rules.length : Int)))) rfl (pv_bin rfl rfl rfl) ?_
  refine wo_val (.int .i64 (IntKind.wrap .i64 ((IntKind.wrap .i64 ((IntKind.wrap .i64 ((IntKind.wrap .i64 ((IntKind.wrap .i64 ((IntKind.wrap .i64 ((IntKind.wrap .i64 ((a.Volumes.length : Int) + (a.Sectors.length : Int))) + (a.Configs.length : Int))) + (a.Segments.length : Int))) + (a.Routes.length : Int))) + (a.Airports.length : Int))) + (a.Classes.length : Int))) + (a.Rules.length : Int)))) rfl pv_assign ?_
  refine wo_nil ?_
  refine wr_seq ?_
  refine wr_seq ?_
  refine wr_region ?_
  refine wo_val (.int .i64 (IntKind.wrap .i64 ((IntKind.wrap .i64 ((IntKind.wrap .i64 ((IntKind.wrap .i64 ((IntKind.wrap .i64 ((IntKind.wrap .i64 ((IntKind.wrap .i64 ((a.Volumes.length : Int) + (a.Sectors.length : Int))) + (a.Configs.length : Int))) + (a.Segments.length : Int))) + (a.Routes.length : Int))) + (a.Airports.length : Int))) + (a.Classes.length : Int))) + (a.Rules.length : Int)))) rfl pv_move ?_
  refine wo_val (.bool (decide ((IntKind.wrap .i64 ((IntKind.wrap .i64 ((IntKind.wrap .i64 ((IntKind.wrap .i64 ((IntKind.wrap .i64 ((IntKind.wrap .i64 ((IntKind.wrap .i64 ((a.Volumes.length : Int) + (a.Sectors.length : Int))) + (a.Configs.length : Int))) + (a.Segments.length : Int))) + (a.Routes.length : Int))) + (a.Airports.length : Int))) + (a.Classes.length : Int))) + (a.Rules.length : Int))) > 80))) rfl (pv_bin rfl rfl rfl) ?_
  refine wo_nil ?_
  refine wf_ite rfl (fun hc => ?_) (fun hc => ?_)
  · refine wr_seq ?_
    refine wr_region ?_
    refine wo_val (.bool false) rfl pv_assign ?_
    refine wo_nil ?_
    exact wr_ret (a := false) (vs := [(.bool false)]) Try.func11 hI rfl (.same _)
  · refine wr_skip ?_
    refine wr_seq ?_
    refine wr_seq ?_
    refine wr_region ?_
    refine wo_val (.int .i64 0) rfl pv_assign ?_
    refine wo_nil ?_
    refine wr_block ?_
    refine wr_lim (t := 12) (L := a.Sectors) rfl fun hlim => ?_
    refine wr_is [(1, (.ptr (ix ids 0) g 0 0)), (3, (.int .i64 (IntKind.wrap .i64 ((IntKind.wrap .i64 ((IntKind.wrap .i64 ((IntKind.wrap .i64 ((IntKind.wrap .i64 ((IntKind.wrap .i64 ((IntKind.wrap .i64 ((a.Volumes.length : Int) + (a.Sectors.length : Int))) + (a.Configs.length : Int))) + (a.Segments.length : Int))) + (a.Routes.length : Int))) + (a.Airports.length : Int))) + (a.Classes.length : Int))) + (a.Rules.length : Int))))), (4, (.int .i64 0))] (.cons rfl (.cons rfl (.cons rfl .nil))) ?_
    refine wf_eachS' a.Sectors (fun _ a1 => fun n => ref09_Few_b1 a1 n) (((fun n => (eachS (fun _ a2 => fun n1 => ref09_Few_b2 a2 n1) 0 a.Configs n).bind ((fun n1 => (eachS (fun _ a3 => fun n2 => ref09_Few_b3 a3 n2) 0 a.Routes n1).bind ((fun n2 => (eachS (fun _ a4 => fun n3 => ref09_Few_b4 a4 n3) 0 a.Airports n2).bind ((fun n3 => .ok (decide (n3 ≤ 300)))))))))) : _ → R Bool)
      (fun j => fun n => fun (fr : Nat → AV) (h : AHeap) => fr = frA [(1, (.ptr (ix ids 0) g 0 0)), (3, (.int .i64 n)), (4, (.int .i64 (j : Int)))] ∧ h = hp h0 ids [(some (.rows g 8 [(rAirspace a)]))]) (IntKind.wrap .i64 ((IntKind.wrap .i64 ((IntKind.wrap .i64 ((IntKind.wrap .i64 ((IntKind.wrap .i64 ((IntKind.wrap .i64 ((IntKind.wrap .i64 ((a.Volumes.length : Int) + (a.Sectors.length : Int))) + (a.Configs.length : Int))) + (a.Segments.length : Int))) + (a.Routes.length : Int))) + (a.Airports.length : Int))) + (a.Classes.length : Int))) + (a.Rules.length : Int))) ?_ ?_ ?_
    · exact ⟨rfl, rfl⟩
    · rintro j a1 ha1 W hW n fr h ⟨rfl, rfl⟩
      refine wr_mod (m' := ref09_Few_b1 a1 n) rfl (wr_mod (ref09_Few_b1.eq_1 _ _) ?_)
      refine wr_seq ?_
      refine wr_seq ?_
      refine wr_region ?_
      refine wo_val (.int .i64 (j : Int)) rfl pv_move ?_
      refine wo_val (.ptr (ix ids 0) g 0 1) rfl (pv_fa (fa_ptr (c := 0) (off := 1) (i := 1) ti31 rfl ti23 rfl)) ?_
      refine wo_val (.sl 5 (List.map rSector a.Sectors)) rfl (pv_load (ld_ptr hI rfl rfl rfl ti23 rfl)) ?_
      refine wo_val (.int .i64 (a.Sectors.length : Int)) rfl (pv_len (len_sl ti23)) ?_
      refine wo_val (.bool (decide ((j : Int) < (a.Sectors.length : Int)))) rfl (pv_bin rfl rfl rfl) ?_
      refine wo_nil ?_
      refine wr_condT rfl (Int.ofNat_lt.2 (lt_of_get ha1)) ?_
      refine wr_skip ?_
      refine wr_seq ?_
      refine wr_block ?_
      refine wr_region ?_
      refine wo_val (.int .i64 n) rfl pv_move ?_
      refine wo_val (.ptr (ix ids 0) g 0 1) rfl (pv_fa (fa_ptr (c := 0) (off := 1) (i := 1) ti31 rfl ti23 rfl)) ?_
      refine wo_val (.sl 5 (List.map rSector a.Sectors)) rfl (pv_load (ld_ptr hI rfl rfl rfl ti23 rfl)) ?_
      refine wo_val (.int .i64 (j : Int)) rfl pv_move ?_
      refine wo_val (.cp (rSector a1) 0) rfl (pv_ixa (ixa_nat ti23 ti53 rfl ha1)) ?_
      refine wo_val (.cp (rSector a1) 1) rfl (pv_fa (fa_cp (c := 0) (off := 1) (i := 1) ti53 rfl ti38 rfl)) ?_
      refine wo_val (.sl 1 (List.map rS a1.Names)) rfl (pv_load (ld_cp ti38 rfl)) ?_
      refine wo_val (.int .i64 (a1.Names.length : Int)) rfl (pv_len (len_sl ti38)) ?_
      refine wo_val (.int .i64 (IntKind.wrap .i64 (n + (a1.Names.length : Int)))) rfl (pv_bin rfl rfl rfl) ?_
      refine wo_val (.int .i64 (IntKind.wrap .i64 (n + (a1.Names.length : Int)))) rfl pv_assign ?_
      refine wo_nil ?_
      refine wr_inBlock ?_
      refine wr_region ?_
      refine wo_val (.int .i64 (j : Int)) rfl pv_move ?_
      refine wo_val (.int .i64 (IntKind.wrap .i64 ((j : Int) + 1))) rfl (pv_bin rfl rfl rfl) ?_
      refine wo_val (.int .i64 (IntKind.wrap .i64 ((j : Int) + 1))) rfl pv_assign ?_
      refine wo_nil ?_
      refine wr_is [(1, (.ptr (ix ids 0) g 0 0)), (3, (.int .i64 (IntKind.wrap .i64 (n + (a1.Names.length : Int))))), (4, (.int .i64 ((j + 1 : Nat) : Int)))] (.cons rfl (.cons rfl (.cons (inc_ok (lt_of_get ha1) hlim) .nil))) ?_
      refine wb_S ?_
      refine hW (IntKind.wrap .i64 (n + (a1.Names.length : Int))) _ _ ?_
      exact ⟨rfl, rfl⟩
    · rintro n fr h ⟨rfl, rfl⟩
      refine wr_seq ?_
      refine wr_seq ?_
      refine wr_region ?_
      refine wo_val (.int .i64 (a.Sectors.length : Int)) rfl pv_move ?_
      refine wo_val (.ptr (ix ids 0) g 0 1) rfl (pv_fa (fa_ptr (c := 0) (off := 1) (i := 1) ti31 rfl ti23 rfl)) ?_
      refine wo_val (.sl 5 (List.map rSector a.Sectors)) rfl (pv_load (ld_ptr hI rfl rfl rfl ti23 rfl)) ?_
      refine wo_val (.int .i64 (a.Sectors.length : Int)) rfl (pv_len (len_sl ti23)) ?_
      refine wo_val (.bool (decide ((a.Sectors.length : Int) < (a.Sectors.length : Int)))) rfl (pv_bin rfl rfl rfl) ?_
      refine wo_nil ?_
      refine wr_condF rfl (Int.lt_irrefl _) ?_
      refine wr_exit rfl ?_
      refine wr_seq ?_
      refine wr_seq ?_
      refine wr_region ?_
      refine wo_val (.int .i64 0) rfl pv_assign ?_
      refine wo_nil ?_
      refine wr_block ?_
      refine wr_is [(1, (.ptr (ix ids 0) g 0 0)), (3, (.int .i64 n)), (5, (.int .i64 0))] (.cons rfl (.cons rfl (.cons rfl .nil))) ?_
      refine wf_eachS' a.Configs (fun _ a2 => fun n1 => ref09_Few_b2 a2 n1) (((fun n1 => (eachS (fun _ a3 => fun n2 => ref09_Few_b3 a3 n2) 0 a.Routes n1).bind ((fun n2 => (eachS (fun _ a4 => fun n3 => ref09_Few_b4 a4 n3) 0 a.Airports n2).bind ((fun n3 => .ok (decide (n3 ≤ 300)))))))) : _ → R Bool)
        (fun j1 => fun n1 => fun (fr : Nat → AV) (h : AHeap) => fr = frA [(1, (.ptr (ix ids 0) g 0 0)), (3, (.int .i64 n1)), (5, (.int .i64 (j1 : Int)))] ∧ h = hp h0 ids [(some (.rows g 8 [(rAirspace a)]))]) n ?_ ?_ ?_
      · exact ⟨rfl, rfl⟩
      · rintro j1 a2 ha2 W hW1 n1 fr h ⟨rfl, rfl⟩
        refine wr_mod (m' := ref09_Few_b2 a2 n1) rfl (wr_mod (ref09_Few_b2.eq_1 _ _) ?_)
        refine wr_seq ?_
        refine wr_seq ?_
        refine wr_region ?_
        refine wo_val (.int .i64 (j1 : Int)) rfl pv_move ?_
        refine wo_val (.ptr (ix ids 0) g 0 2) rfl (pv_fa (fa_ptr (c := 0) (off := 2) (i := 2) ti31 rfl ti24 rfl)) ?_
        refine wo_val (.sl 3 (List.map rConfig a.Configs)) rfl (pv_load (ld_ptr hI rfl rfl rfl ti24 rfl)) ?_
        refine wo_val (.int .i64 (a.Configs.length : Int)) rfl (pv_len (len_sl ti24)) ?_
        refine wo_val (.bool (decide ((j1 : Int) < (a.Configs.length : Int)))) rfl (pv_bin rfl rfl rfl) ?_
        refine wo_nil ?_
        refine wr_lim (t := 59) (L := a.Configs) rfl fun hlim2 => ?_
        refine wr_condT rfl (Int.ofNat_lt.2 (lt_of_get ha2)) ?_
        refine wr_skip ?_
        refine wr_seq ?_
        refine wr_block ?_
        refine wr_region ?_
        refine wo_val (.int .i64 n1) rfl pv_move ?_
        refine wo_val (.ptr (ix ids 0) g 0 2) rfl (pv_fa (fa_ptr (c := 0) (off := 2) (i := 2) ti31 rfl ti24 rfl)) ?_
        refine wo_val (.sl 3 (List.map rConfig a.Configs)) rfl (pv_load (ld_ptr hI rfl rfl rfl ti24 rfl)) ?_
        refine wo_val (.int .i64 (j1 : Int)) rfl pv_move ?_
        refine wo_val (.cp (rConfig a2) 0) rfl (pv_ixa (ixa_nat ti24 ti55 rfl ha2)) ?_
        refine wo_val (.cp (rConfig a2) 1) rfl (pv_fa (fa_cp (c := 0) (off := 1) (i := 1) ti55 rfl ti38 rfl)) ?_
        refine wo_val (.sl 1 (List.map rS a2.Names)) rfl (pv_load (ld_cp ti38 rfl)) ?_
        refine wo_val (.int .i64 (a2.Names.length : Int)) rfl (pv_len (len_sl ti38)) ?_
        refine wo_val (.int .i64 (IntKind.wrap .i64 (n1 + (a2.Names.length : Int)))) rfl (pv_bin rfl rfl rfl) ?_
        refine wo_val (.int .i64 (IntKind.wrap .i64 (n1 + (a2.Names.length : Int)))) rfl pv_assign ?_
        refine wo_nil ?_
        refine wr_inBlock ?_
        refine wr_region ?_
        refine wo_val (.int .i64 (j1 : Int)) rfl pv_move ?_
        refine wo_val (.int .i64 (IntKind.wrap .i64 ((j1 : Int) + 1))) rfl (pv_bin rfl rfl rfl) ?_
        refine wo_val (.int .i64 (IntKind.wrap .i64 ((j1 : Int) + 1))) rfl pv_assign ?_
        refine wo_nil ?_
        refine wr_is [(1, (.ptr (ix ids 0) g 0 0)), (3, (.int .i64 (IntKind.wrap .i64 (n1 + (a2.Names.length : Int))))), (5, (.int .i64 ((j1 + 1 : Nat) : Int)))] (.cons rfl (.cons rfl (.cons (inc_ok (lt_of_get ha2) hlim2) .nil))) ?_
        refine wb_S ?_
        refine hW1 (IntKind.wrap .i64 (n1 + (a2.Names.length : Int))) _ _ ?_
        exact ⟨rfl, rfl⟩
      · rintro n1 fr h ⟨rfl, rfl⟩
        refine wr_seq ?_
        refine wr_seq ?_
        refine wr_region ?_
        refine wo_val (.int .i64 (a.Configs.length : Int)) rfl pv_move ?_
        refine wo_val (.ptr (ix ids 0) g 0 2) rfl (pv_fa (fa_ptr (c := 0) (off := 2) (i := 2) ti31 rfl ti24 rfl)) ?_
        refine wo_val (.sl 3 (List.map rConfig a.Configs)) rfl (pv_load (ld_ptr hI rfl rfl rfl ti24 rfl)) ?_
        refine wo_val (.int .i64 (a.Configs.length : Int)) rfl (pv_len (len_sl ti24)) ?_
        refine wo_val (.bool (decide ((a.Configs.length : Int) < (a.Configs.length : Int)))) rfl (pv_bin rfl rfl rfl) ?_
        refine wo_nil ?_
        refine wr_condF rfl (Int.lt_irrefl _) ?_
        refine wr_exit rfl ?_
        refine wr_seq ?_
        refine wr_seq ?_
        refine wr_region ?_
        refine wo_val (.int .i64 0) rfl pv_assign ?_
        refine wo_nil ?_
        refine wr_block ?_
        refine wr_is [(1, (.ptr (ix ids 0) g 0 0)), (3, (.int .i64 n1)), (6, (.int .i64 0))] (.cons rfl (.cons rfl (.cons rfl .nil))) ?_
        refine wf_eachS' a.Routes (fun _ a3 => fun n2 => ref09_Few_b3 a3 n2) (((fun n2 => (eachS (fun _ a4 => fun n3 => ref09_Few_b4 a4 n3) 0 a.Airports n2).bind ((fun n3 => .ok (decide (n3 ≤ 300)))))) : _ → R Bool)
          (fun j2 => fun n2 => fun (fr : Nat → AV) (h : AHeap) => fr = frA [(1, (.ptr (ix ids 0) g 0 0)), (3, (.int .i64 n2)), (6, (.int .i64 (j2 : Int)))] ∧ h = hp h0 ids [(some (.rows g 8 [(rAirspace a)]))]) n1 ?_ ?_ ?_
        · exact ⟨rfl, rfl⟩
        · rintro j2 a3 ha3 W hW2 n2 fr h ⟨rfl, rfl⟩
          refine wr_mod (m' := ref09_Few_b3 a3 n2) rfl (wr_mod (ref09_Few_b3.eq_1 _ _) ?_)
          refine wr_seq ?_
          refine wr_seq ?_
          refine wr_region ?_
          refine wo_val (.int .i64 (j2 : Int)) rfl pv_move ?_
          refine wo_val (.ptr (ix ids 0) g 0 4) rfl (pv_fa (fa_ptr (c := 0) (off := 4) (i := 4) ti31 rfl ti26 rfl)) ?_
          refine wo_val (.sl 7 (List.map rRoute a.Routes)) rfl (pv_load (ld_ptr hI rfl rfl rfl ti26 rfl)) ?_
          refine wo_val (.int .i64 (a.Routes.length : Int)) rfl (pv_len (len_sl ti26)) ?_
          refine wo_val (.bool (decide ((j2 : Int) < (a.Routes.length : Int)))) rfl (pv_bin rfl rfl rfl) ?_
          refine wo_nil ?_
          refine wr_lim (t := 75) (L := a.Routes) rfl fun hlim4 => ?_
          refine wr_condT rfl (Int.ofNat_lt.2 (lt_of_get ha3)) ?_
          refine wr_skip ?_
          refine wr_seq ?_
          refine wr_block ?_
          refine wr_region ?_
          refine wo_val (.int .i64 n2) rfl pv_move ?_
          refine wo_val (.ptr (ix ids 0) g 0 4) rfl (pv_fa (fa_ptr (c := 0) (off := 4) (i := 4) ti31 rfl ti26 rfl)) ?_
          refine wo_val (.sl 7 (List.map rRoute a.Routes)) rfl (pv_load (ld_ptr hI rfl rfl rfl ti26 rfl)) ?_
          refine wo_val (.int .i64 (j2 : Int)) rfl pv_move ?_
          refine wo_val (.cp (rRoute a3) 0) rfl (pv_ixa (ixa_nat ti26 ti59 rfl ha3)) ?_
          refine wo_val (.cp (rRoute a3) 5) rfl (pv_fa (fa_cp (c := 0) (off := 5) (i := 5) ti59 rfl ti38 rfl)) ?_
          refine wo_val (.sl 1 (List.map rS a3.Names)) rfl (pv_load (ld_cp ti38 rfl)) ?_
          refine wo_val (.int .i64 (a3.Names.length : Int)) rfl (pv_len (len_sl ti38)) ?_
          refine wo_val (.int .i64 (IntKind.wrap .i64 (n2 + (a3.Names.length : Int)))) rfl (pv_bin rfl rfl rfl) ?_
          refine wo_val (.int .i64 (IntKind.wrap .i64 (n2 + (a3.Names.length : Int)))) rfl pv_assign ?_
          refine wo_nil ?_
          refine wr_inBlock ?_
          refine wr_region ?_
          refine wo_val (.int .i64 (j2 : Int)) rfl pv_move ?_
          refine wo_val (.int .i64 (IntKind.wrap .i64 ((j2 : Int) + 1))) rfl (pv_bin rfl rfl rfl) ?_
          refine wo_val (.int .i64 (IntKind.wrap .i64 ((j2 : Int) + 1))) rfl pv_assign ?_
          refine wo_nil ?_
          refine wr_is [(1, (.ptr (ix ids 0) g 0 0)), (3, (.int .i64 (IntKind.wrap .i64 (n2 + (a3.Names.length : Int))))), (6, (.int .i64 ((j2 + 1 : Nat) : Int)))] (.cons rfl (.cons rfl (.cons (inc_ok (lt_of_get ha3) hlim4) .nil))) ?_
          refine wb_S ?_
          refine hW2 (IntKind.wrap .i64 (n2 + (a3.Names.length : Int))) _ _ ?_
          exact ⟨rfl, rfl⟩
        · rintro n2 fr h ⟨rfl, rfl⟩
          refine wr_seq ?_
          refine wr_seq ?_
          refine wr_region ?_
          refine wo_val (.int .i64 (a.Routes.length : Int)) rfl pv_move ?_
          refine wo_val (.ptr (ix ids 0) g 0 4) rfl (pv_fa (fa_ptr (c := 0) (off := 4) (i := 4) ti31 rfl ti26 rfl)) ?_
          refine wo_val (.sl 7 (List.map rRoute a.Routes)) rfl (pv_load (ld_ptr hI rfl rfl rfl ti26 rfl)) ?_
          refine wo_val (.int .i64 (a.Routes.length : Int)) rfl (pv_len (len_sl ti26)) ?_
          refine wo_val (.bool (decide ((a.Routes.length : Int) < (a.Routes.length : Int)))) rfl (pv_bin rfl rfl rfl) ?_
          refine wo_nil ?_
          refine wr_condF rfl (Int.lt_irrefl _) ?_
          refine wr_exit rfl ?_
          refine wr_seq ?_
          refine wr_seq ?_
          refine wr_region ?_
          refine wo_val (.int .i64 0) rfl pv_assign ?_
          refine wo_nil ?_
          refine wr_block ?_
          refine wr_is [(1, (.ptr (ix ids 0) g 0 0)), (3, (.int .i64 n2)), (7, (.int .i64 0))] (.cons rfl (.cons rfl (.cons rfl .nil))) ?_
          refine wf_eachS' a.Airports (fun _ a4 => fun n3 => ref09_Few_b4 a4 n3) (((fun n3 => .ok (decide (n3 ≤ 300)))) : _ → R Bool)
            (fun j3 => fun n3 => fun (fr : Nat → AV) (h : AHeap) => fr = frA [(1, (.ptr (ix ids 0) g 0 0)), (3, (.int .i64 n3)), (7, (.int .i64 (j3 : Int)))] ∧ h = hp h0 ids [(some (.rows g 8 [(rAirspace a)]))]) n2 ?_ ?_ ?_
          · exact ⟨rfl, rfl⟩
          · rintro j3 a4 ha4 W hW3 n3 fr h ⟨rfl, rfl⟩
            refine wr_mod (m' := ref09_Few_b4 a4 n3) rfl (wr_mod (ref09_Few_b4.eq_1 _ _) ?_)
            refine wr_seq ?_
            refine wr_seq ?_
            refine wr_region ?_
            refine wo_val (.int .i64 (j3 : Int)) rfl pv_move ?_
            refine wo_val (.ptr (ix ids 0) g 0 5) rfl (pv_fa (fa_ptr (c := 0) (off := 5) (i := 5) ti31 rfl ti27 rfl)) ?_
            refine wo_val (.sl 2 (List.map rAirport a.Airports)) rfl (pv_load (ld_ptr hI rfl rfl rfl ti27 rfl)) ?_
            refine wo_val (.int .i64 (a.Airports.length : Int)) rfl (pv_len (len_sl ti27)) ?_
            refine wo_val (.bool (decide ((j3 : Int) < (a.Airports.length : Int)))) rfl (pv_bin rfl rfl rfl) ?_
            refine wo_nil ?_
            refine wr_lim (t := 91) (L := a.Airports) rfl fun hlim6 => ?_
            refine wr_condT rfl (Int.ofNat_lt.2 (lt_of_get ha4)) ?_
            refine wr_skip ?_
            refine wr_seq ?_
            refine wr_block ?_
            refine wr_region ?_
            refine wo_val (.int .i64 n3) rfl pv_move ?_
            refine wo_val (.ptr (ix ids 0) g 0 5) rfl (pv_fa (fa_ptr (c := 0) (off := 5) (i := 5) ti31 rfl ti27 rfl)) ?_
            refine wo_val (.sl 2 (List.map rAirport a.Airports)) rfl (pv_load (ld_ptr hI rfl rfl rfl ti27 rfl)) ?_
            refine wo_val (.int .i64 (j3 : Int)) rfl pv_move ?_
            refine wo_val (.cp (rAirport a4) 0) rfl (pv_ixa (ixa_nat ti27 ti46 rfl ha4)) ?_
            refine wo_val (.cp (rAirport a4) 1) rfl (pv_fa (fa_cp (c := 0) (off := 1) (i := 1) ti46 rfl ti44 rfl)) ?_
            refine wo_val (.sl 2 (List.map rMode a4.Modes)) rfl (pv_load (ld_cp ti44 rfl)) ?_
            refine wo_val (.int .i64 (a4.Modes.length : Int)) rfl (pv_len (len_sl ti44)) ?_
            refine wo_val (.int .i64 (IntKind.wrap .i64 (n3 + (a4.Modes.length : Int)))) rfl (pv_bin rfl rfl rfl) ?_
            refine wo_val (.int .i64 (IntKind.wrap .i64 (n3 + (a4.Modes.length : Int)))) rfl pv_assign ?_
            refine wo_nil ?_
            refine wr_inBlock ?_
            refine wr_region ?_
            refine wo_val (.int .i64 (j3 : Int)) rfl pv_move ?_
            refine wo_val (.int .i64 (IntKind.wrap .i64 ((j3 : Int) + 1))) rfl (pv_bin rfl rfl rfl) ?_
            refine wo_val (.int .i64 (IntKind.wrap .i64 ((j3 : Int) + 1))) rfl pv_assign ?_
            refine wo_nil ?_
            refine wr_is [(1, (.ptr (ix ids 0) g 0 0)), (3, (.int .i64 (IntKind.wrap .i64 (n3 + (a4.Modes.length : Int))))), (7, (.int .i64 ((j3 + 1 : Nat) : Int)))] (.cons rfl (.cons rfl (.cons (inc_ok (lt_of_get ha4) hlim6) .nil))) ?_
            refine wb_S ?_
            refine hW3 (IntKind.wrap .i64 (n3 + (a4.Modes.length : Int))) _ _ ?_
            exact ⟨rfl, rfl⟩
          · rintro n3 fr h ⟨rfl, rfl⟩
            refine wr_seq ?_
            refine wr_seq ?_
            refine wr_region ?_
            refine wo_val (.int .i64 (a.Airports.length : Int)) rfl pv_move ?_
            refine wo_val (.ptr (ix ids 0) g 0 5) rfl (pv_fa (fa_ptr (c := 0) (off := 5) (i := 5) ti31 rfl ti27 rfl)) ?_
            refine wo_val (.sl 2 (List.map rAirport a.Airports)) rfl (pv_load (ld_ptr hI rfl rfl rfl ti27 rfl)) ?_
            refine wo_val (.int .i64 (a.Airports.length : Int)) rfl (pv_len (len_sl ti27)) ?_
            refine wo_val (.bool (decide ((a.Airports.length : Int) < (a.Airports.length : Int)))) rfl (pv_bin rfl rfl rfl) ?_
            refine wo_nil ?_
            refine wr_condF rfl (Int.lt_irrefl _) ?_
            refine wr_exit rfl ?_
            refine wr_seq ?_
            refine wr_region ?_
            refine wo_val (.int .i64 n3) rfl pv_move ?_
            refine wo_val (.bool (decide (n3 ≤ 300))) rfl (pv_bin rfl rfl rfl) ?_
            refine wo_val (.bool (decide (n3 ≤ 300))) rfl pv_assign ?_
            refine wo_nil ?_
            exact wr_ret (a := (decide (n3 ≤ 300))) (vs := [(.bool (decide (n3 ≤ 300)))]) Try.func11 hI rfl (.same _)

theorem cp_ref08_Unnumbered (a : Airspace) : CP Try.prog 21 [(.agg (rAirspace a))] (ref08_Unnumbered a) (fun (x : Airspace) => (AV.agg (rAirspace x))) := by
  refine cp_intro (n := 120) 13 Try.func21 rfl (by decide) rfl rfl fun h0 ids hI => ?_
  refine wr_in (wr_mod (ref08_Unnumbered.eq_1 _) ?_)
  refine wr_seq ?_
  refine wr_region ?_
  refine wo_box (v := (.agg (rAirspace a))) (j := 0) hI rfl rfl rfl rfl rfl rfl rfl fun g => ?_
  refine wo_alloc (j := 1) hI rfl rfl rfl rfl ti31 rfl fun g1 => ?_
  refine wo_nil ?_
  refine wr_hp [(some (.rows g 8 [(rAirspace a)])), (some (.rows g1 8 [[.emp, .emp, .emp, .emp, .emp, .emp, .emp, .emp]])), none, none, none, none, none, none, none, none, none, none, none] rfl ?_
  refine wr_seq ?_
  refine wr_region ?_
  refine wo_val (.ptr (ix ids 0) g 0 0) rfl (pv_fa (fa_ptr (c := 0) (off := 0) (i := 0) ti31 rfl ti22 rfl)) ?_
  refine wo_val (.sl 2 (List.map rVolume a.Volumes)) rfl (pv_load (ld_ptr hI rfl rfl rfl ti22 rfl)) ?_
  refine wo_val (.ptr (ix ids 0) g 0 5) rfl (pv_fa (fa_ptr (c := 0) (off := 5) (i := 5) ti31 rfl ti27 rfl)) ?_
  refine wo_val (.sl 2 (List.map rAirport a.Airports)) rfl (pv_load (ld_ptr hI rfl rfl rfl ti27 rfl)) ?_
  refine wo_val (.ptr (ix ids 0) g 0 6) rfl (pv_fa (fa_ptr (c := 0) (off := 6) (i := 6) ti31 rfl ti28 rfl)) ?_
  refine wo_val (.sl 4 (List.map rClass a.Classes)) rfl (pv_load (ld_ptr hI rfl rfl rfl ti28 rfl)) ?_
  refine wo_val (.agg [(.sl 2 (List.map rVolume a.Volumes)), .emp, .emp, .emp, .emp, (.sl 2 (List.map rAirport a.Airports)), (.sl 4 (List.map rClass a.Classes)), .emp]) rfl (pv_build (bd_st ti31 pl31 rfl)) ?_
  refine wo_alloc (j := 2) hI rfl rfl rfl rfl ti31 rfl fun g2 => ?_
  refine wo_store (st_ptr hI rfl rfl rfl rfl ti31 rfl rfl rfl rfl rfl) ?_
  refine wo_nil ?_
  refine wr_hp [(some (.rows g 8 [(rAirspace a)])), (some (.rows g1 8 [[.emp, .emp, .emp, .emp, .emp, .emp, .emp, .emp]])), (some (.rows g2 8 [[(.sl 2 (List.map rVolume a.Volumes)), .emp, .emp, .emp, .emp, (.sl 2 (List.map rAirport a.Airports)), (.sl 4 (List.map rClass a.Classes)), .emp]])), none, none, none, none, none, none, none, none, none, none] rfl ?_
  refine wr_seq ?_
  refine wr_seq ?_
  refine wr_region ?_
  refine wo_val (.int .i64 0) rfl pv_assign ?_
  refine wo_nil ?_
  refine wr_block ?_
  refine wr_is [(1, (.ptr (ix ids 0) g 0 0)), (2, (.ptr (ix ids 1) g1 0 0)), (3, (.ptr (ix ids 2) g2 0 0)), (4, (.int .i64 0))] (.cons rfl (.cons rfl (.cons rfl (.cons rfl .nil)))) ?_
  refine wf_eachS' a.Sectors (fun _ a1 => fun l => ref08_Unnumbered_b1 a1 l) (((fun l => (eachS (fun _ a2 => fun l1 => ref08_Unnumbered_b2 a2 l1) 0 a.Configs []).bind ((fun l1 => (eachS (fun _ a3 => fun l2 => ref08_Unnumbered_b3 a3 l2) 0 a.Segments []).bind ((fun l2 => (eachS (fun _ a4 => fun l3 => ref08_Unnumbered_b4 a4 l3) 0 a.Routes []).bind ((fun l3 => (eachS (fun _ a5 => fun l4 => ref08_Unnumbered_b5 a5 l4) 0 a.Rules []).bind ((fun l4 => .ok ({ Volumes := a.Volumes, Sectors := l, Configs := l1, Segments := l2, Routes := l3, Airports := a.Airports, Classes := a.Classes, Rules := l4 } : Airspace))))))))))) : _ → R Airspace)
    (fun j => fun l => fun (fr : Nat → AV) (h : AHeap) => ∃ (v : AV), ∃ (g3 : Nat), OwnV v (ix ids 4) g3 l.length ∧ fr = frA [(1, (.ptr (ix ids 0) g 0 0)), (2, (.ptr (ix ids 1) g1 0 0)), (3, (.ptr (ix ids 2) g2 0 0)), (4, (.int .i64 (j : Int)))] ∧ h = hp h0 ids [(some (.rows g 8 [(rAirspace a)])), (some (.rows g1 8 [[.emp, .emp, .emp, .emp, .emp, .emp, .emp, .emp]])), (some (.rows g2 8 [[(.sl 2 (List.map rVolume a.Volumes)), v, .emp, .emp, .emp, (.sl 2 (List.map rAirport a.Airports)), (.sl 4 (List.map rClass a.Classes)), .emp]])), none, (ownO v g3 5 (List.map rSector l)), none, none, none, none, none, none, none, none]) [] ?_ ?_ ?_
  · exact ⟨.emp, 0, .nil, rfl, rfl⟩
  · rintro j a1 ha1 W hW l fr h ⟨v, g3, vH, rfl, rfl⟩
    refine wr_mod (m' := ref08_Unnumbered_b1 a1 l) rfl (wr_mod (ref08_Unnumbered_b1.eq_1 _ _) ?_)
    refine wr_seq ?_
    refine wr_seq ?_
    refine wr_region ?_
    refine wo_val (.int .i64 (j : Int)) rfl pv_move ?_
    refine wo_val (.ptr (ix ids 0) g 0 1) rfl (pv_fa (fa_ptr (c := 0) (off := 1) (i := 1) ti31 rfl ti23 rfl)) ?_
    refine wo_val (.sl 5 (List.map rSector a.Sectors)) rfl (pv_load (ld_ptr hI rfl rfl rfl ti23 rfl)) ?_
    refine wo_val (.int .i64 (a.Sectors.length : Int)) rfl (pv_len (len_sl ti23)) ?_
    refine wo_val (.bool (decide ((j : Int) < (a.Sectors.length : Int)))) rfl (pv_bin rfl rfl rfl) ?_
    refine wo_nil ?_
    refine wr_lim (t := 23) (L := a.Sectors) rfl fun hlim1 => ?_
    refine wr_condT rfl (Int.ofNat_lt.2 (lt_of_get ha1)) ?_
    refine wr_skip ?_
    refine wr_seq ?_
    refine wr_block ?_
    refine wr_seq ?_
    refine wr_region ?_
    refine wo_val (.ptr (ix ids 0) g 0 1) rfl (pv_fa (fa_ptr (c := 0) (off := 1) (i := 1) ti31 rfl ti23 rfl)) ?_
    refine wo_val (.sl 5 (List.map rSector a.Sectors)) rfl (pv_load (ld_ptr hI rfl rfl rfl ti23 rfl)) ?_
    refine wo_val (.int .i64 (j : Int)) rfl pv_move ?_
    refine wo_val (.cp (rSector a1) 0) rfl (pv_ixa (ixa_nat ti23 ti53 rfl ha1)) ?_
    refine wo_val (.agg (rSector a1)) rfl (pv_load (ld_cp ti53 rfl)) ?_
    refine wo_alloc (j := 3) hI rfl rfl rfl rfl ti53 rfl fun g4 => ?_
    refine wo_store (st_ptr hI rfl rfl rfl rfl ti53 rfl rfl rfl rfl rfl) ?_
    refine wo_nil ?_
    refine wr_hp [(some (.rows g 8 [(rAirspace a)])), (some (.rows g1 8 [[.emp, .emp, .emp, .emp, .emp, .emp, .emp, .emp]])), (some (.rows g2 8 [[(.sl 2 (List.map rVolume a.Volumes)), v, .emp, .emp, .emp, (.sl 2 (List.map rAirport a.Airports)), (.sl 4 (List.map rClass a.Classes)), .emp]])), (some (.rows g4 5 [(rSector a1)])), (ownO v g3 5 (List.map rSector l)), none, none, none, none, none, none, none, none] rfl ?_
    refine wr_seq ?_
    refine wr_region ?_
    refine wo_val (.ptr (ix ids 3) g4 0 2) rfl (pv_fa (fa_ptr (c := 0) (off := 2) (i := 2) ti53 rfl ti51 rfl)) ?_
    refine wo_store (st_ptr hI rfl rfl rfl rfl ti51 rfl rfl rfl rfl rfl) ?_
    refine wo_nil ?_
    refine wr_hp [(some (.rows g 8 [(rAirspace a)])), (some (.rows g1 8 [[.emp, .emp, .emp, .emp, .emp, .emp, .emp, .emp]])), (some (.rows g2 8 [[(.sl 2 (List.map rVolume a.Volumes)), v, .emp, .emp, .emp, (.sl 2 (List.map rAirport a.Airports)), (.sl 4 (List.map rClass a.Classes)), .emp]])), (some (.rows g4 5 [[(.str a1.Name), (.sl 1 (List.map rS a1.Names)), .emp, (.int .i64 a1.Radar), (.int .i64 a1.Procedural)]])), (ownO v g3 5 (List.map rSector l)), none, none, none, none, none, none, none, none] rfl ?_
    refine wr_region ?_
    refine wo_val (.ptr (ix ids 2) g2 0 1) rfl (pv_fa (fa_ptr (c := 0) (off := 1) (i := 1) ti31 rfl ti23 rfl)) ?_
    refine wo_val v rfl (pv_load (ld_ptr hI rfl rfl rfl ti23 rfl)) ?_
    refine wo_val (.agg [(.str a1.Name), (.sl 1 (List.map rS a1.Names)), .emp, (.int .i64 a1.Radar), (.int .i64 a1.Procedural)]) rfl (pv_load (ld_ptr hI rfl rfl rfl ti53 rfl)) ?_
    refine wo_bsC (e := rSector) (L := [({ Name := a1.Name, Names := a1.Names, Volumes := [], Radar := a1.Radar, Procedural := a1.Procedural } : Sector)]) (st := 5) (rows := [[(.str a1.Name), (.sl 1 (List.map rS a1.Names)), .emp, (.int .i64 a1.Radar), (.int .i64 a1.Procedural)]]) rfl ti23 ti53 rfl rfl rfl rfl rfl (.cons (.cons (.same _) (.cons (.same _) (.cons (.emp _) (.cons (.same _) (.cons (.same _) .nil))))) .nil) (fun x => ok_Sector x) rfl rfl ?_
    refine of_need fun hl => ?_
    refine wo_append (e := rSector) (L := l) (L2 := [({ Name := a1.Name, Names := a1.Names, Volumes := [], Radar := a1.Radar, Procedural := a1.Procedural } : Sector)]) (v := v) (g := g3) (st := 5) (j := 4) hI rfl rfl rfl rfl vH rfl (src_sl rfl) ti23 ti23 rfl ti53 rfl rfl rfl hl fun v1 g5 vH1 => ?_
    refine wo_val (.ptr (ix ids 2) g2 0 1) rfl (pv_fa (fa_ptr (c := 0) (off := 1) (i := 1) ti31 rfl ti23 rfl)) ?_
    refine wo_store (st_ptrO vH1 hI rfl rfl rfl rfl ti23 rfl rfl rfl) ?_
    refine wo_nil ?_
    refine wr_hp [(some (.rows g 8 [(rAirspace a)])), (some (.rows g1 8 [[.emp, .emp, .emp, .emp, .emp, .emp, .emp, .emp]])), (some (.rows g2 8 [[(.sl 2 (List.map rVolume a.Volumes)), v1, .emp, .emp, .emp, (.sl 2 (List.map rAirport a.Airports)), (.sl 4 (List.map rClass a.Classes)), .emp]])), (some (.rows g4 5 [[(.str a1.Name), (.sl 1 (List.map rS a1.Names)), .emp, (.int .i64 a1.Radar), (.int .i64 a1.Procedural)]])), (ownO v1 g5 5 (List.map rSector (l ++ [({ Name := a1.Name, Names := a1.Names, Volumes := [], Radar := a1.Radar, Procedural := a1.Procedural } : Sector)]))), none, none, none, none, none, none, none, none] rfl ?_
    refine wr_inBlock ?_
    refine wr_region ?_
    refine wo_val (.int .i64 (j : Int)) rfl pv_move ?_
    refine wo_val (.int .i64 (IntKind.wrap .i64 ((j : Int) + 1))) rfl (pv_bin rfl rfl rfl) ?_
    refine wo_val (.int .i64 (IntKind.wrap .i64 ((j : Int) + 1))) rfl pv_assign ?_
    refine wo_nil ?_
    refine wr_drop [(some (.rows g 8 [(rAirspace a)])), (some (.rows g1 8 [[.emp, .emp, .emp, .emp, .emp, .emp, .emp, .emp]])), (some (.rows g2 8 [[(.sl 2 (List.map rVolume a.Volumes)), v1, .emp, .emp, .emp, (.sl 2 (List.map rAirport a.Airports)), (.sl 4 (List.map rClass a.Classes)), .emp]])), none, (ownO v1 g5 5 (List.map rSector (l ++ [({ Name := a1.Name, Names := a1.Names, Volumes := [], Radar := a1.Radar, Procedural := a1.Procedural } : Sector)]))), none, none, none, none, none, none, none, none] hI rfl (.keep (.keep (.keep (.drop (.keep (.keep (.keep (.keep (.keep (.keep (.keep (.keep (.keep .nil))))))))))))) ?_
    refine wr_is [(1, (.ptr (ix ids 0) g 0 0)), (2, (.ptr (ix ids 1) g1 0 0)), (3, (.ptr (ix ids 2) g2 0 0)), (4, (.int .i64 ((j + 1 : Nat) : Int)))] (.cons rfl (.cons rfl (.cons rfl (.cons (inc_ok (lt_of_get ha1) hlim1) .nil)))) ?_
    refine wb_S ?_
    refine hW (l ++ [({ Name := a1.Name, Names := a1.Names, Volumes := [], Radar := a1.Radar, Procedural := a1.Procedural } : Sector)]) _ _ ?_
    exact ⟨v1, g5, vH1, rfl, rfl⟩
  · rintro l fr h ⟨v, g3, vH, rfl, rfl⟩
    refine wr_seq ?_
    refine wr_seq ?_
    refine wr_region ?_
    refine wo_val (.int .i64 (a.Sectors.length : Int)) rfl pv_move ?_
    refine wo_val (.ptr (ix ids 0) g 0 1) rfl (pv_fa (fa_ptr (c := 0) (off := 1) (i := 1) ti31 rfl ti23 rfl)) ?_
    refine wo_val (.sl 5 (List.map rSector a.Sectors)) rfl (pv_load (ld_ptr hI rfl rfl rfl ti23 rfl)) ?_
    refine wo_val (.int .i64 (a.Sectors.length : Int)) rfl (pv_len (len_sl ti23)) ?_
    refine wo_val (.bool (decide ((a.Sectors.length : Int) < (a.Sectors.length : Int)))) rfl (pv_bin rfl rfl rfl) ?_
    refine wo_nil ?_
    refine wr_condF rfl (Int.lt_irrefl _) ?_
    refine wr_exit rfl ?_
    refine wr_seq ?_
    refine wr_seq ?_
    refine wr_region ?_
    refine wo_val (.int .i64 0) rfl pv_assign ?_
    refine wo_nil ?_
    refine wr_block ?_
    refine wr_is [(1, (.ptr (ix ids 0) g 0 0)), (2, (.ptr (ix ids 1) g1 0 0)), (3, (.ptr (ix ids 2) g2 0 0)), (6, (.int .i64 0))] (.cons rfl (.cons rfl (.cons rfl (.cons rfl .nil)))) ?_
    refine wf_eachS' a.Configs (fun _ a2 => fun l1 => ref08_Unnumbered_b2 a2 l1) (((fun l1 => (eachS (fun _ a3 => fun l2 => ref08_Unnumbered_b3 a3 l2) 0 a.Segments []).bind ((fun l2 => (eachS (fun _ a4 => fun l3 => ref08_Unnumbered_b4 a4 l3) 0 a.Routes []).bind ((fun l3 => (eachS (fun _ a5 => fun l4 => ref08_Unnumbered_b5 a5 l4) 0 a.Rules []).bind ((fun l4 => .ok ({ Volumes := a.Volumes, Sectors := l, Configs := l1, Segments := l2, Routes := l3, Airports := a.Airports, Classes := a.Classes, Rules := l4 } : Airspace))))))))) : _ → R Airspace)
      (fun j1 => fun l1 => fun (fr : Nat → AV) (h : AHeap) => ∃ (v2 : AV), ∃ (g6 : Nat), OwnV v2 (ix ids 6) g6 l1.length ∧ fr = frA [(1, (.ptr (ix ids 0) g 0 0)), (2, (.ptr (ix ids 1) g1 0 0)), (3, (.ptr (ix ids 2) g2 0 0)), (6, (.int .i64 (j1 : Int)))] ∧ h = hp h0 ids [(some (.rows g 8 [(rAirspace a)])), (some (.rows g1 8 [[.emp, .emp, .emp, .emp, .emp, .emp, .emp, .emp]])), (some (.rows g2 8 [[(.sl 2 (List.map rVolume a.Volumes)), v, v2, .emp, .emp, (.sl 2 (List.map rAirport a.Airports)), (.sl 4 (List.map rClass a.Classes)), .emp]])), none, (ownO v g3 5 (List.map rSector l)), none, (ownO v2 g6 3 (List.map rConfig l1)), none, none, none, none, none, none]) [] ?_ ?_ ?_
    · exact ⟨.emp, 0, .nil, rfl, rfl⟩
    · rintro j1 a2 ha2 W hW1 l1 fr h ⟨v2, g6, vH2, rfl, rfl⟩
      refine wr_mod (m' := ref08_Unnumbered_b2 a2 l1) rfl (wr_mod (ref08_Unnumbered_b2.eq_1 _ _) ?_)
      refine wr_seq ?_
      refine wr_seq ?_
      refine wr_region ?_
      refine wo_val (.int .i64 (j1 : Int)) rfl pv_move ?_
      refine wo_val (.ptr (ix ids 0) g 0 2) rfl (pv_fa (fa_ptr (c := 0) (off := 2) (i := 2) ti31 rfl ti24 rfl)) ?_
      refine wo_val (.sl 3 (List.map rConfig a.Configs)) rfl (pv_load (ld_ptr hI rfl rfl rfl ti24 rfl)) ?_
      refine wo_val (.int .i64 (a.Configs.length : Int)) rfl (pv_len (len_sl ti24)) ?_
      refine wo_val (.bool (decide ((j1 : Int) < (a.Configs.length : Int)))) rfl (pv_bin rfl rfl rfl) ?_
      refine wo_nil ?_
      refine wr_lim (t := 42) (L := a.Configs) rfl fun hlim3 => ?_
      refine wr_condT rfl (Int.ofNat_lt.2 (lt_of_get ha2)) ?_
      refine wr_skip ?_
      refine wr_seq ?_
      refine wr_block ?_
      refine wr_seq ?_
      refine wr_region ?_
      refine wo_val (.ptr (ix ids 0) g 0 2) rfl (pv_fa (fa_ptr (c := 0) (off := 2) (i := 2) ti31 rfl ti24 rfl)) ?_
      refine wo_val (.sl 3 (List.map rConfig a.Configs)) rfl (pv_load (ld_ptr hI rfl rfl rfl ti24 rfl)) ?_
      refine wo_val (.int .i64 (j1 : Int)) rfl pv_move ?_
      refine wo_val (.cp (rConfig a2) 0) rfl (pv_ixa (ixa_nat ti24 ti55 rfl ha2)) ?_
      refine wo_val (.agg (rConfig a2)) rfl (pv_load (ld_cp ti55 rfl)) ?_
      refine wo_alloc (j := 5) hI rfl rfl rfl rfl ti55 rfl fun g7 => ?_
      refine wo_store (st_ptr hI rfl rfl rfl rfl ti55 rfl rfl rfl rfl rfl) ?_
      refine wo_nil ?_
      refine wr_hp [(some (.rows g 8 [(rAirspace a)])), (some (.rows g1 8 [[.emp, .emp, .emp, .emp, .emp, .emp, .emp, .emp]])), (some (.rows g2 8 [[(.sl 2 (List.map rVolume a.Volumes)), v, v2, .emp, .emp, (.sl 2 (List.map rAirport a.Airports)), (.sl 4 (List.map rClass a.Classes)), .emp]])), none, (ownO v g3 5 (List.map rSector l)), (some (.rows g7 3 [(rConfig a2)])), (ownO v2 g6 3 (List.map rConfig l1)), none, none, none, none, none, none] rfl ?_
      refine wr_seq ?_
      refine wr_region ?_
      refine wo_val (.ptr (ix ids 5) g7 0 2) rfl (pv_fa (fa_ptr (c := 0) (off := 2) (i := 2) ti55 rfl ti51 rfl)) ?_
      refine wo_store (st_ptr hI rfl rfl rfl rfl ti51 rfl rfl rfl rfl rfl) ?_
      refine wo_nil ?_
      refine wr_hp [(some (.rows g 8 [(rAirspace a)])), (some (.rows g1 8 [[.emp, .emp, .emp, .emp, .emp, .emp, .emp, .emp]])), (some (.rows g2 8 [[(.sl 2 (List.map rVolume a.Volumes)), v, v2, .emp, .emp, (.sl 2 (List.map rAirport a.Airports)), (.sl 4 (List.map rClass a.Classes)), .emp]])), none, (ownO v g3 5 (List.map rSector l)), (some (.rows g7 3 [[(.str a2.Name), (.sl 1 (List.map rS a2.Names)), .emp]])), (ownO v2 g6 3 (List.map rConfig l1)), none, none, none, none, none, none] rfl ?_
      refine wr_region ?_
      refine wo_val (.ptr (ix ids 2) g2 0 2) rfl (pv_fa (fa_ptr (c := 0) (off := 2) (i := 2) ti31 rfl ti24 rfl)) ?_
      refine wo_val v2 rfl (pv_load (ld_ptr hI rfl rfl rfl ti24 rfl)) ?_
      refine wo_val (.agg [(.str a2.Name), (.sl 1 (List.map rS a2.Names)), .emp]) rfl (pv_load (ld_ptr hI rfl rfl rfl ti55 rfl)) ?_
      refine wo_bsC (e := rConfig) (L := [({ Name := a2.Name, Names := a2.Names, Sectors := [] } : Config)]) (st := 3) (rows := [[(.str a2.Name), (.sl 1 (List.map rS a2.Names)), .emp]]) rfl ti24 ti55 rfl rfl rfl rfl rfl (.cons (.cons (.same _) (.cons (.same _) (.cons (.emp _) .nil))) .nil) (fun x => ok_Config x) rfl rfl ?_
      refine of_need fun hl1 => ?_
      refine wo_append (e := rConfig) (L := l1) (L2 := [({ Name := a2.Name, Names := a2.Names, Sectors := [] } : Config)]) (v := v2) (g := g6) (st := 3) (j := 6) hI rfl rfl rfl rfl vH2 rfl (src_sl rfl) ti24 ti24 rfl ti55 rfl rfl rfl hl1 fun v3 g8 vH3 => ?_
      refine wo_val (.ptr (ix ids 2) g2 0 2) rfl (pv_fa (fa_ptr (c := 0) (off := 2) (i := 2) ti31 rfl ti24 rfl)) ?_
      refine wo_store (st_ptrO vH3 hI rfl rfl rfl rfl ti24 rfl rfl rfl) ?_
      refine wo_nil ?_
      refine wr_hp [(some (.rows g 8 [(rAirspace a)])), (some (.rows g1 8 [[.emp, .emp, .emp, .emp, .emp, .emp, .emp, .emp]])), (some (.rows g2 8 [[(.sl 2 (List.map rVolume a.Volumes)), v, v3, .emp, .emp, (.sl 2 (List.map rAirport a.Airports)), (.sl 4 (List.map rClass a.Classes)), .emp]])), none, (ownO v g3 5 (List.map rSector l)), (some (.rows g7 3 [[(.str a2.Name), (.sl 1 (List.map rS a2.Names)), .emp]])), (ownO v3 g8 3 (List.map rConfig (l1 ++ [({ Name := a2.Name, Names := a2.Names, Sectors := [] } : Config)]))), none, none, none, none, none, none] rfl ?_
      refine wr_inBlock ?_
      refine wr_region ?_
      refine wo_val (.int .i64 (j1 : Int)) rfl pv_move ?_
      refine wo_val (.int .i64 (IntKind.wrap .i64 ((j1 : Int) + 1))) rfl (pv_bin rfl rfl rfl) ?_
      refine wo_val (.int .i64 (IntKind.wrap .i64 ((j1 : Int) + 1))) rfl pv_assign ?_
      refine wo_nil ?_
      refine wr_drop [(some (.rows g 8 [(rAirspace a)])), (some (.rows g1 8 [[.emp, .emp, .emp, .emp, .emp, .emp, .emp, .emp]])), (some (.rows g2 8 [[(.sl 2 (List.map rVolume a.Volumes)), v, v3, .emp, .emp, (.sl 2 (List.map rAirport a.Airports)), (.sl 4 (List.map rClass a.Classes)), .emp]])), none, (ownO v g3 5 (List.map rSector l)), none, (ownO v3 g8 3 (List.map rConfig (l1 ++ [({ Name := a2.Name, Names := a2.Names, Sectors := [] } : Config)]))), none, none, none, none, none, none] hI rfl (.keep (.keep (.keep (.keep (.keep (.drop (.keep (.keep (.keep (.keep (.keep (.keep (.keep .nil))))))))))))) ?_
      refine wr_is [(1, (.ptr (ix ids 0) g 0 0)), (2, (.ptr (ix ids 1) g1 0 0)), (3, (.ptr (ix ids 2) g2 0 0)), (6, (.int .i64 ((j1 + 1 : Nat) : Int)))] (.cons rfl (.cons rfl (.cons rfl (.cons (inc_ok (lt_of_get ha2) hlim3) .nil)))) ?_
      refine wb_S ?_
      refine hW1 (l1 ++ [({ Name := a2.Name, Names := a2.Names, Sectors := [] } : Config)]) _ _ ?_
      exact ⟨v3, g8, vH3, rfl, rfl⟩
    · rintro l1 fr h ⟨v2, g6, vH2, rfl, rfl⟩
      refine wr_seq ?_
      refine wr_seq ?_
      refine wr_region ?_
      refine wo_val (.int .i64 (a.Configs.length : Int)) rfl pv_move ?_
      refine wo_val (.ptr (ix ids 0) g 0 2) rfl (pv_fa (fa_ptr (c := 0) (off := 2) (i := 2) ti31 rfl ti24 rfl)) ?_
      refine wo_val (.sl 3 (List.map rConfig a.Configs)) rfl (pv_load (ld_ptr hI rfl rfl rfl ti24 rfl)) ?_
      refine wo_val (.int .i64 (a.Configs.length : Int)) rfl (pv_len (len_sl ti24)) ?_
      refine wo_val (.bool (decide ((a.Configs.length : Int) < (a.Configs.length : Int)))) rfl (pv_bin rfl rfl rfl) ?_
      refine wo_nil ?_
      refine wr_condF rfl (Int.lt_irrefl _) ?_
      refine wr_exit rfl ?_
      refine wr_seq ?_
      refine wr_seq ?_
      refine wr_region ?_
      refine wo_val (.int .i64 0) rfl pv_assign ?_
      refine wo_nil ?_
      refine wr_block ?_
      refine wr_is [(1, (.ptr (ix ids 0) g 0 0)), (2, (.ptr (ix ids 1) g1 0 0)), (3, (.ptr (ix ids 2) g2 0 0)), (8, (.int .i64 0))] (.cons rfl (.cons rfl (.cons rfl (.cons rfl .nil)))) ?_
      refine wf_eachS' a.Segments (fun _ a3 => fun l2 => ref08_Unnumbered_b3 a3 l2) (((fun l2 => (eachS (fun _ a4 => fun l3 => ref08_Unnumbered_b4 a4 l3) 0 a.Routes []).bind ((fun l3 => (eachS (fun _ a5 => fun l4 => ref08_Unnumbered_b5 a5 l4) 0 a.Rules []).bind ((fun l4 => .ok ({ Volumes := a.Volumes, Sectors := l, Configs := l1, Segments := l2, Routes := l3, Airports := a.Airports, Classes := a.Classes, Rules := l4 } : Airspace))))))) : _ → R Airspace)
        (fun j2 => fun l2 => fun (fr : Nat → AV) (h : AHeap) => ∃ (v4 : AV), ∃ (g9 : Nat), OwnV v4 (ix ids 8) g9 l2.length ∧ fr = frA [(1, (.ptr (ix ids 0) g 0 0)), (2, (.ptr (ix ids 1) g1 0 0)), (3, (.ptr (ix ids 2) g2 0 0)), (8, (.int .i64 (j2 : Int)))] ∧ h = hp h0 ids [(some (.rows g 8 [(rAirspace a)])), (some (.rows g1 8 [[.emp, .emp, .emp, .emp, .emp, .emp, .emp, .emp]])), (some (.rows g2 8 [[(.sl 2 (List.map rVolume a.Volumes)), v, v2, v4, .emp, (.sl 2 (List.map rAirport a.Airports)), (.sl 4 (List.map rClass a.Classes)), .emp]])), none, (ownO v g3 5 (List.map rSector l)), none, (ownO v2 g6 3 (List.map rConfig l1)), none, (ownO v4 g9 5 (List.map rSegment l2)), none, none, none, none]) [] ?_ ?_ ?_
      · exact ⟨.emp, 0, .nil, rfl, rfl⟩
      · rintro j2 a3 ha3 W hW2 l2 fr h ⟨v4, g9, vH4, rfl, rfl⟩
        refine wr_mod (m' := ref08_Unnumbered_b3 a3 l2) rfl (wr_mod (ref08_Unnumbered_b3.eq_1 _ _) ?_)
        refine wr_seq ?_
        refine wr_seq ?_
        refine wr_region ?_
        refine wo_val (.int .i64 (j2 : Int)) rfl pv_move ?_
        refine wo_val (.ptr (ix ids 0) g 0 3) rfl (pv_fa (fa_ptr (c := 0) (off := 3) (i := 3) ti31 rfl ti25 rfl)) ?_
        refine wo_val (.sl 5 (List.map rSegment a.Segments)) rfl (pv_load (ld_ptr hI rfl rfl rfl ti25 rfl)) ?_
        refine wo_val (.int .i64 (a.Segments.length : Int)) rfl (pv_len (len_sl ti25)) ?_
        refine wo_val (.bool (decide ((j2 : Int) < (a.Segments.length : Int)))) rfl (pv_bin rfl rfl rfl) ?_
        refine wo_nil ?_
        refine wr_lim (t := 61) (L := a.Segments) rfl fun hlim5 => ?_
        refine wr_condT rfl (Int.ofNat_lt.2 (lt_of_get ha3)) ?_
        refine wr_skip ?_
        refine wr_seq ?_
        refine wr_block ?_
        refine wr_seq ?_
        refine wr_region ?_
        refine wo_val (.ptr (ix ids 0) g 0 3) rfl (pv_fa (fa_ptr (c := 0) (off := 3) (i := 3) ti31 rfl ti25 rfl)) ?_
        refine wo_val (.sl 5 (List.map rSegment a.Segments)) rfl (pv_load (ld_ptr hI rfl rfl rfl ti25 rfl)) ?_
        refine wo_val (.int .i64 (j2 : Int)) rfl pv_move ?_
        refine wo_val (.cp (rSegment a3) 0) rfl (pv_ixa (ixa_nat ti25 ti57 rfl ha3)) ?_
        refine wo_val (.agg (rSegment a3)) rfl (pv_load (ld_cp ti57 rfl)) ?_
        refine wo_alloc (j := 7) hI rfl rfl rfl rfl ti57 rfl fun g10 => ?_
        refine wo_store (st_ptr hI rfl rfl rfl rfl ti57 rfl rfl rfl rfl rfl) ?_
        refine wo_nil ?_
        refine wr_hp [(some (.rows g 8 [(rAirspace a)])), (some (.rows g1 8 [[.emp, .emp, .emp, .emp, .emp, .emp, .emp, .emp]])), (some (.rows g2 8 [[(.sl 2 (List.map rVolume a.Volumes)), v, v2, v4, .emp, (.sl 2 (List.map rAirport a.Airports)), (.sl 4 (List.map rClass a.Classes)), .emp]])), none, (ownO v g3 5 (List.map rSector l)), none, (ownO v2 g6 3 (List.map rConfig l1)), (some (.rows g10 5 [(rSegment a3)])), (ownO v4 g9 5 (List.map rSegment l2)), none, none, none, none] rfl ?_
        refine wr_seq ?_
        refine wr_region ?_
        refine wo_val (.ptr (ix ids 7) g10 0 2) rfl (pv_fa (fa_ptr (c := 0) (off := 2) (i := 2) ti57 rfl ti3 rfl)) ?_
        refine wo_store (st_ptr hI rfl rfl rfl rfl ti3 rfl rfl rfl rfl rfl) ?_
        refine wo_nil ?_
        refine wr_hp [(some (.rows g 8 [(rAirspace a)])), (some (.rows g1 8 [[.emp, .emp, .emp, .emp, .emp, .emp, .emp, .emp]])), (some (.rows g2 8 [[(.sl 2 (List.map rVolume a.Volumes)), v, v2, v4, .emp, (.sl 2 (List.map rAirport a.Airports)), (.sl 4 (List.map rClass a.Classes)), .emp]])), none, (ownO v g3 5 (List.map rSector l)), none, (ownO v2 g6 3 (List.map rConfig l1)), (some (.rows g10 5 [[(.str a3.Name), (.str a3.In), (.int .i64 0), (.int .i64 a3.Length), (.sl 2 (List.map rSpan a3.Open))]])), (ownO v4 g9 5 (List.map rSegment l2)), none, none, none, none] rfl ?_
        refine wr_region ?_
        refine wo_val (.ptr (ix ids 2) g2 0 3) rfl (pv_fa (fa_ptr (c := 0) (off := 3) (i := 3) ti31 rfl ti25 rfl)) ?_
        refine wo_val v4 rfl (pv_load (ld_ptr hI rfl rfl rfl ti25 rfl)) ?_
        refine wo_val (.agg [(.str a3.Name), (.str a3.In), (.int .i64 0), (.int .i64 a3.Length), (.sl 2 (List.map rSpan a3.Open))]) rfl (pv_load (ld_ptr hI rfl rfl rfl ti57 rfl)) ?_
        refine wo_bsC (e := rSegment) (L := [({ Name := a3.Name, In := a3.In, Volume := 0, Length := a3.Length, Open := a3.Open } : Segment)]) (st := 5) (rows := [[(.str a3.Name), (.str a3.In), (.int .i64 0), (.int .i64 a3.Length), (.sl 2 (List.map rSpan a3.Open))]]) rfl ti25 ti57 rfl rfl rfl rfl rfl (.cons (.cons (.same _) (.cons (.same _) (.cons (.same _) (.cons (.same _) (.cons (.same _) .nil))))) .nil) (fun x => ok_Segment x) rfl rfl ?_
        refine of_need fun hl2 => ?_
        refine wo_append (e := rSegment) (L := l2) (L2 := [({ Name := a3.Name, In := a3.In, Volume := 0, Length := a3.Length, Open := a3.Open } : Segment)]) (v := v4) (g := g9) (st := 5) (j := 8) hI rfl rfl rfl rfl vH4 rfl (src_sl rfl) ti25 ti25 rfl ti57 rfl rfl rfl hl2 fun v5 g11 vH5 => ?_
        refine wo_val (.ptr (ix ids 2) g2 0 3) rfl (pv_fa (fa_ptr (c := 0) (off := 3) (i := 3) ti31 rfl ti25 rfl)) ?_
        refine wo_store (st_ptrO vH5 hI rfl rfl rfl rfl ti25 rfl rfl rfl) ?_
        refine wo_nil ?_
        refine wr_hp [(some (.rows g 8 [(rAirspace a)])), (some (.rows g1 8 [[.emp, .emp, .emp, .emp, .emp, .emp, .emp, .emp]])), (some (.rows g2 8 [[(.sl 2 (List.map rVolume a.Volumes)), v, v2, v5, .emp, (.sl 2 (List.map rAirport a.Airports)), (.sl 4 (List.map rClass a.Classes)), .emp]])), none, (ownO v g3 5 (List.map rSector l)), none, (ownO v2 g6 3 (List.map rConfig l1)), (some (.rows g10 5 [[(.str a3.Name), (.str a3.In), (.int .i64 0), (.int .i64 a3.Length), (.sl 2 (List.map rSpan a3.Open))]])), (ownO v5 g11 5 (List.map rSegment (l2 ++ [({ Name := a3.Name, In := a3.In, Volume := 0, Length := a3.Length, Open := a3.Open } : Segment)]))), none, none, none, none] rfl ?_
        refine wr_inBlock ?_
        refine wr_region ?_
        refine wo_val (.int .i64 (j2 : Int)) rfl pv_move ?_
        refine wo_val (.int .i64 (IntKind.wrap .i64 ((j2 : Int) + 1))) rfl (pv_bin rfl rfl rfl) ?_
        refine wo_val (.int .i64 (IntKind.wrap .i64 ((j2 : Int) + 1))) rfl pv_assign ?_
        refine wo_nil ?_
        refine wr_drop [(some (.rows g 8 [(rAirspace a)])), (some (.rows g1 8 [[.emp, .emp, .emp, .emp, .emp, .emp, .emp, .emp]])), (some (.rows g2 8 [[(.sl 2 (List.map rVolume a.Volumes)), v, v2, v5, .emp, (.sl 2 (List.map rAirport a.Airports)), (.sl 4 (List.map rClass a.Classes)), .emp]])), none, (ownO v g3 5 (List.map rSector l)), none, (ownO v2 g6 3 (List.map rConfig l1)), none, (ownO v5 g11 5 (List.map rSegment (l2 ++ [({ Name := a3.Name, In := a3.In, Volume := 0, Length := a3.Length, Open := a3.Open } : Segment)]))), none, none, none, none] hI rfl (.keep (.keep (.keep (.keep (.keep (.keep (.keep (.drop (.keep (.keep (.keep (.keep (.keep .nil))))))))))))) ?_
        refine wr_is [(1, (.ptr (ix ids 0) g 0 0)), (2, (.ptr (ix ids 1) g1 0 0)), (3, (.ptr (ix ids 2) g2 0 0)), (8, (.int .i64 ((j2 + 1 : Nat) : Int)))] (.cons rfl (.cons rfl (.cons rfl (.cons (inc_ok (lt_of_get ha3) hlim5) .nil)))) ?_
        refine wb_S ?_
        refine hW2 (l2 ++ [({ Name := a3.Name, In := a3.In, Volume := 0, Length := a3.Length, Open := a3.Open } : Segment)]) _ _ ?_
        exact ⟨v5, g11, vH5, rfl, rfl⟩
      · rintro l2 fr h ⟨v4, g9, vH4, rfl, rfl⟩
        refine wr_seq ?_
        refine wr_seq ?_
        refine wr_region ?_
        refine wo_val (.int .i64 (a.Segments.length : Int)) rfl pv_move ?_
        refine wo_val (.ptr (ix ids 0) g 0 3) rfl (pv_fa (fa_ptr (c := 0) (off := 3) (i := 3) ti31 rfl ti25 rfl)) ?_
        refine wo_val (.sl 5 (List.map rSegment a.Segments)) rfl (pv_load (ld_ptr hI rfl rfl rfl ti25 rfl)) ?_
        refine wo_val (.int .i64 (a.Segments.length : Int)) rfl (pv_len (len_sl ti25)) ?_
        refine wo_val (.bool (decide ((a.Segments.length : Int) < (a.Segments.length : Int)))) rfl (pv_bin rfl rfl rfl) ?_
        refine wo_nil ?_
        refine wr_condF rfl (Int.lt_irrefl _) ?_
        refine wr_exit rfl ?_
        refine wr_seq ?_
        refine wr_seq ?_
        refine wr_region ?_
        refine wo_val (.int .i64 0) rfl pv_assign ?_
        refine wo_nil ?_
        refine wr_block ?_
        refine wr_is [(1, (.ptr (ix ids 0) g 0 0)), (2, (.ptr (ix ids 1) g1 0 0)), (3, (.ptr (ix ids 2) g2 0 0)), (10, (.int .i64 0))] (.cons rfl (.cons rfl (.cons rfl (.cons rfl .nil)))) ?_
        refine wf_eachS' a.Routes (fun _ a4 => fun l3 => ref08_Unnumbered_b4 a4 l3) (((fun l3 => (eachS (fun _ a5 => fun l4 => ref08_Unnumbered_b5 a5 l4) 0 a.Rules []).bind ((fun l4 => .ok ({ Volumes := a.Volumes, Sectors := l, Configs := l1, Segments := l2, Routes := l3, Airports := a.Airports, Classes := a.Classes, Rules := l4 } : Airspace))))) : _ → R Airspace)
          (fun j3 => fun l3 => fun (fr : Nat → AV) (h : AHeap) => ∃ (v6 : AV), ∃ (g12 : Nat), OwnV v6 (ix ids 10) g12 l3.length ∧ fr = frA [(1, (.ptr (ix ids 0) g 0 0)), (2, (.ptr (ix ids 1) g1 0 0)), (3, (.ptr (ix ids 2) g2 0 0)), (10, (.int .i64 (j3 : Int)))] ∧ h = hp h0 ids [(some (.rows g 8 [(rAirspace a)])), (some (.rows g1 8 [[.emp, .emp, .emp, .emp, .emp, .emp, .emp, .emp]])), (some (.rows g2 8 [[(.sl 2 (List.map rVolume a.Volumes)), v, v2, v4, v6, (.sl 2 (List.map rAirport a.Airports)), (.sl 4 (List.map rClass a.Classes)), .emp]])), none, (ownO v g3 5 (List.map rSector l)), none, (ownO v2 g6 3 (List.map rConfig l1)), none, (ownO v4 g9 5 (List.map rSegment l2)), none, (ownO v6 g12 7 (List.map rRoute l3)), none, none]) [] ?_ ?_ ?_
        · exact ⟨.emp, 0, .nil, rfl, rfl⟩
        · rintro j3 a4 ha4 W hW3 l3 fr h ⟨v6, g12, vH6, rfl, rfl⟩
          refine wr_mod (m' := ref08_Unnumbered_b4 a4 l3) rfl (wr_mod (ref08_Unnumbered_b4.eq_1 _ _) ?_)
          refine wr_seq ?_
          refine wr_seq ?_
          refine wr_region ?_
          refine wo_val (.int .i64 (j3 : Int)) rfl pv_move ?_
          refine wo_val (.ptr (ix ids 0) g 0 4) rfl (pv_fa (fa_ptr (c := 0) (off := 4) (i := 4) ti31 rfl ti26 rfl)) ?_
          refine wo_val (.sl 7 (List.map rRoute a.Routes)) rfl (pv_load (ld_ptr hI rfl rfl rfl ti26 rfl)) ?_
          refine wo_val (.int .i64 (a.Routes.length : Int)) rfl (pv_len (len_sl ti26)) ?_
          refine wo_val (.bool (decide ((j3 : Int) < (a.Routes.length : Int)))) rfl (pv_bin rfl rfl rfl) ?_
          refine wo_nil ?_
          refine wr_lim (t := 80) (L := a.Routes) rfl fun hlim7 => ?_
          refine wr_condT rfl (Int.ofNat_lt.2 (lt_of_get ha4)) ?_
          refine wr_skip ?_
          refine wr_seq ?_
          refine wr_block ?_
          refine wr_seq ?_
          refine wr_region ?_
          refine wo_val (.ptr (ix ids 0) g 0 4) rfl (pv_fa (fa_ptr (c := 0) (off := 4) (i := 4) ti31 rfl ti26 rfl)) ?_
          refine wo_val (.sl 7 (List.map rRoute a.Routes)) rfl (pv_load (ld_ptr hI rfl rfl rfl ti26 rfl)) ?_
          refine wo_val (.int .i64 (j3 : Int)) rfl pv_move ?_
          refine wo_val (.cp (rRoute a4) 0) rfl (pv_ixa (ixa_nat ti26 ti59 rfl ha4)) ?_
          refine wo_val (.agg (rRoute a4)) rfl (pv_load (ld_cp ti59 rfl)) ?_
          refine wo_alloc (j := 9) hI rfl rfl rfl rfl ti59 rfl fun g13 => ?_
          refine wo_store (st_ptr hI rfl rfl rfl rfl ti59 rfl rfl rfl rfl rfl) ?_
          refine wo_nil ?_
          refine wr_hp [(some (.rows g 8 [(rAirspace a)])), (some (.rows g1 8 [[.emp, .emp, .emp, .emp, .emp, .emp, .emp, .emp]])), (some (.rows g2 8 [[(.sl 2 (List.map rVolume a.Volumes)), v, v2, v4, v6, (.sl 2 (List.map rAirport a.Airports)), (.sl 4 (List.map rClass a.Classes)), .emp]])), none, (ownO v g3 5 (List.map rSector l)), none, (ownO v2 g6 3 (List.map rConfig l1)), none, (ownO v4 g9 5 (List.map rSegment l2)), (some (.rows g13 7 [(rRoute a4)])), (ownO v6 g12 7 (List.map rRoute l3)), none, none] rfl ?_
          refine wr_seq ?_
          refine wr_region ?_
          refine wo_val (.ptr (ix ids 9) g13 0 3) rfl (pv_fa (fa_ptr (c := 0) (off := 3) (i := 3) ti59 rfl ti3 rfl)) ?_
          refine wo_store (st_ptr hI rfl rfl rfl rfl ti3 rfl rfl rfl rfl rfl) ?_
          refine wo_nil ?_
          refine wr_hp [(some (.rows g 8 [(rAirspace a)])), (some (.rows g1 8 [[.emp, .emp, .emp, .emp, .emp, .emp, .emp, .emp]])), (some (.rows g2 8 [[(.sl 2 (List.map rVolume a.Volumes)), v, v2, v4, v6, (.sl 2 (List.map rAirport a.Airports)), (.sl 4 (List.map rClass a.Classes)), .emp]])), none, (ownO v g3 5 (List.map rSector l)), none, (ownO v2 g6 3 (List.map rConfig l1)), none, (ownO v4 g9 5 (List.map rSegment l2)), (some (.rows g13 7 [[(.str a4.Name), (.str a4.A), (.str a4.B), (.int .i64 0), (.int .i64 a4.To), (.sl 1 (List.map rS a4.Names)), (.sl 1 (List.map (rI .i64) a4.Segments))]])), (ownO v6 g12 7 (List.map rRoute l3)), none, none] rfl ?_
          refine wr_seq ?_
          refine wr_region ?_
          refine wo_val (.ptr (ix ids 9) g13 0 4) rfl (pv_fa (fa_ptr (c := 0) (off := 4) (i := 4) ti59 rfl ti3 rfl)) ?_
          refine wo_store (st_ptr hI rfl rfl rfl rfl ti3 rfl rfl rfl rfl rfl) ?_
          refine wo_nil ?_
          refine wr_hp [(some (.rows g 8 [(rAirspace a)])), (some (.rows g1 8 [[.emp, .emp, .emp, .emp, .emp, .emp, .emp, .emp]])), (some (.rows g2 8 [[(.sl 2 (List.map rVolume a.Volumes)), v, v2, v4, v6, (.sl 2 (List.map rAirport a.Airports)), (.sl 4 (List.map rClass a.Classes)), .emp]])), none, (ownO v g3 5 (List.map rSector l)), none, (ownO v2 g6 3 (List.map rConfig l1)), none, (ownO v4 g9 5 (List.map rSegment l2)), (some (.rows g13 7 [[(.str a4.Name), (.str a4.A), (.str a4.B), (.int .i64 0), (.int .i64 0), (.sl 1 (List.map rS a4.Names)), (.sl 1 (List.map (rI .i64) a4.Segments))]])), (ownO v6 g12 7 (List.map rRoute l3)), none, none] rfl ?_
          refine wr_seq ?_
          refine wr_region ?_
          refine wo_val (.ptr (ix ids 9) g13 0 6) rfl (pv_fa (fa_ptr (c := 0) (off := 6) (i := 6) ti59 rfl ti51 rfl)) ?_
          refine wo_store (st_ptr hI rfl rfl rfl rfl ti51 rfl rfl rfl rfl rfl) ?_
          refine wo_nil ?_
          refine wr_hp [(some (.rows g 8 [(rAirspace a)])), (some (.rows g1 8 [[.emp, .emp, .emp, .emp, .emp, .emp, .emp, .emp]])), (some (.rows g2 8 [[(.sl 2 (List.map rVolume a.Volumes)), v, v2, v4, v6, (.sl 2 (List.map rAirport a.Airports)), (.sl 4 (List.map rClass a.Classes)), .emp]])), none, (ownO v g3 5 (List.map rSector l)), none, (ownO v2 g6 3 (List.map rConfig l1)), none, (ownO v4 g9 5 (List.map rSegment l2)), (some (.rows g13 7 [[(.str a4.Name), (.str a4.A), (.str a4.B), (.int .i64 0), (.int .i64 0), (.sl 1 (List.map rS a4.Names)), .emp]])), (ownO v6 g12 7 (List.map rRoute l3)), none, none] rfl ?_
          refine wr_region ?_
          refine wo_val (.ptr (ix ids 2) g2 0 4) rfl (pv_fa (fa_ptr (c := 0) (off := 4) (i := 4) ti31 rfl ti26 rfl)) ?_
          refine wo_val v6 rfl (pv_load (ld_ptr hI rfl rfl rfl ti26 rfl)) ?_
          refine wo_val (.agg [(.str a4.Name), (.str a4.A), (.str a4.B), (.int .i64 0), (.int .i64 0), (.sl 1 (List.map rS a4.Names)), .emp]) rfl (pv_load (ld_ptr hI rfl rfl rfl ti59 rfl)) ?_
          refine wo_bsC (e := rRoute) (L := [({ Name := a4.Name, A := a4.A, B := a4.B, From := 0, To := 0, Names := a4.Names, Segments := [] } : Route)]) (st := 7) (rows := [[(.str a4.Name), (.str a4.A), (.str a4.B), (.int .i64 0), (.int .i64 0), (.sl 1 (List.map rS a4.Names)), .emp]]) rfl ti26 ti59 rfl rfl rfl rfl rfl (.cons (.cons (.same _) (.cons (.same _) (.cons (.same _) (.cons (.same _) (.cons (.same _) (.cons (.same _) (.cons (.emp _) .nil))))))) .nil) (fun x => ok_Route x) rfl rfl ?_
          refine of_need fun hl3 => ?_
          refine wo_append (e := rRoute) (L := l3) (L2 := [({ Name := a4.Name, A := a4.A, B := a4.B, From := 0, To := 0, Names := a4.Names, Segments := [] } : Route)]) (v := v6) (g := g12) (st := 7) (j := 10) hI rfl rfl rfl rfl vH6 rfl (src_sl rfl) ti26 ti26 rfl ti59 rfl rfl rfl hl3 fun v7 g14 vH7 => ?_
          refine wo_val (.ptr (ix ids 2) g2 0 4) rfl (pv_fa (fa_ptr (c := 0) (off := 4) (i := 4) ti31 rfl ti26 rfl)) ?_
          refine wo_store (st_ptrO vH7 hI rfl rfl rfl rfl ti26 rfl rfl rfl) ?_
          refine wo_nil ?_
          refine wr_hp [(some (.rows g 8 [(rAirspace a)])), (some (.rows g1 8 [[.emp, .emp, .emp, .emp, .emp, .emp, .emp, .emp]])), (some (.rows g2 8 [[(.sl 2 (List.map rVolume a.Volumes)), v, v2, v4, v7, (.sl 2 (List.map rAirport a.Airports)), (.sl 4 (List.map rClass a.Classes)), .emp]])), none, (ownO v g3 5 (List.map rSector l)), none, (ownO v2 g6 3 (List.map rConfig l1)), none, (ownO v4 g9 5 (List.map rSegment l2)), (some (.rows g13 7 [[(.str a4.Name), (.str a4.A), (.str a4.B), (.int .i64 0), (.int .i64 0), (.sl 1 (List.map rS a4.Names)), .emp]])), (ownO v7 g14 7 (List.map rRoute (l3 ++ [({ Name := a4.Name, A := a4.A, B := a4.B, From := 0, To := 0, Names := a4.Names, Segments := [] } : Route)]))), none, none] rfl ?_
          refine wr_inBlock ?_
          refine wr_region ?_
          refine wo_val (.int .i64 (j3 : Int)) rfl pv_move ?_
          refine wo_val (.int .i64 (IntKind.wrap .i64 ((j3 : Int) + 1))) rfl (pv_bin rfl rfl rfl) ?_
          refine wo_val (.int .i64 (IntKind.wrap .i64 ((j3 : Int) + 1))) rfl pv_assign ?_
          refine wo_nil ?_
          refine wr_drop [(some (.rows g 8 [(rAirspace a)])), (some (.rows g1 8 [[.emp, .emp, .emp, .emp, .emp, .emp, .emp, .emp]])), (some (.rows g2 8 [[(.sl 2 (List.map rVolume a.Volumes)), v, v2, v4, v7, (.sl 2 (List.map rAirport a.Airports)), (.sl 4 (List.map rClass a.Classes)), .emp]])), none, (ownO v g3 5 (List.map rSector l)), none, (ownO v2 g6 3 (List.map rConfig l1)), none, (ownO v4 g9 5 (List.map rSegment l2)), none, (ownO v7 g14 7 (List.map rRoute (l3 ++ [({ Name := a4.Name, A := a4.A, B := a4.B, From := 0, To := 0, Names := a4.Names, Segments := [] } : Route)]))), none, none] hI rfl (.keep (.keep (.keep (.keep (.keep (.keep (.keep (.keep (.keep (.drop (.keep (.keep (.keep .nil))))))))))))) ?_
          refine wr_is [(1, (.ptr (ix ids 0) g 0 0)), (2, (.ptr (ix ids 1) g1 0 0)), (3, (.ptr (ix ids 2) g2 0 0)), (10, (.int .i64 ((j3 + 1 : Nat) : Int)))] (.cons rfl (.cons rfl (.cons rfl (.cons (inc_ok (lt_of_get ha4) hlim7) .nil)))) ?_
          refine wb_S ?_
          refine hW3 (l3 ++ [({ Name := a4.Name, A := a4.A, B := a4.B, From := 0, To := 0, Names := a4.Names, Segments := [] } : Route)]) _ _ ?_
          exact ⟨v7, g14, vH7, rfl, rfl⟩
        · rintro l3 fr h ⟨v6, g12, vH6, rfl, rfl⟩
          refine wr_seq ?_
          refine wr_seq ?_
          refine wr_region ?_
          refine wo_val (.int .i64 (a.Routes.length : Int)) rfl pv_move ?_
          refine wo_val (.ptr (ix ids 0) g 0 4) rfl (pv_fa (fa_ptr (c := 0) (off := 4) (i := 4) ti31 rfl ti26 rfl)) ?_
          refine wo_val (.sl 7 (List.map rRoute a.Routes)) rfl (pv_load (ld_ptr hI rfl rfl rfl ti26 rfl)) ?_
          refine wo_val (.int .i64 (a.Routes.length : Int)) rfl (pv_len (len_sl ti26)) ?_
          refine wo_val (.bool (decide ((a.Routes.length : Int) < (a.Routes.length : Int)))) rfl (pv_bin rfl rfl rfl) ?_
          refine wo_nil ?_
          refine wr_condF rfl (Int.lt_irrefl _) ?_
          refine wr_exit rfl ?_
          refine wr_seq ?_
          refine wr_seq ?_
          refine wr_region ?_
          refine wo_val (.int .i64 0) rfl pv_assign ?_
          refine wo_nil ?_
          refine wr_block ?_
          refine wr_is [(1, (.ptr (ix ids 0) g 0 0)), (2, (.ptr (ix ids 1) g1 0 0)), (3, (.ptr (ix ids 2) g2 0 0)), (12, (.int .i64 0))] (.cons rfl (.cons rfl (.cons rfl (.cons rfl .nil)))) ?_
          refine wf_eachS' a.Rules (fun _ a5 => fun l4 => ref08_Unnumbered_b5 a5 l4) (((fun l4 => .ok ({ Volumes := a.Volumes, Sectors := l, Configs := l1, Segments := l2, Routes := l3, Airports := a.Airports, Classes := a.Classes, Rules := l4 } : Airspace))) : _ → R Airspace)
            (fun j4 => fun l4 => fun (fr : Nat → AV) (h : AHeap) => ∃ (v8 : AV), ∃ (g15 : Nat), OwnV v8 (ix ids 12) g15 l4.length ∧ fr = frA [(1, (.ptr (ix ids 0) g 0 0)), (2, (.ptr (ix ids 1) g1 0 0)), (3, (.ptr (ix ids 2) g2 0 0)), (12, (.int .i64 (j4 : Int)))] ∧ h = hp h0 ids [(some (.rows g 8 [(rAirspace a)])), (some (.rows g1 8 [[.emp, .emp, .emp, .emp, .emp, .emp, .emp, .emp]])), (some (.rows g2 8 [[(.sl 2 (List.map rVolume a.Volumes)), v, v2, v4, v6, (.sl 2 (List.map rAirport a.Airports)), (.sl 4 (List.map rClass a.Classes)), v8]])), none, (ownO v g3 5 (List.map rSector l)), none, (ownO v2 g6 3 (List.map rConfig l1)), none, (ownO v4 g9 5 (List.map rSegment l2)), none, (ownO v6 g12 7 (List.map rRoute l3)), none, (ownO v8 g15 8 (List.map rRule l4))]) [] ?_ ?_ ?_
          · exact ⟨.emp, 0, .nil, rfl, rfl⟩
          · rintro j4 a5 ha5 W hW4 l4 fr h ⟨v8, g15, vH8, rfl, rfl⟩
            refine wr_mod (m' := ref08_Unnumbered_b5 a5 l4) rfl (wr_mod (ref08_Unnumbered_b5.eq_1 _ _) ?_)
            refine wr_seq ?_
            refine wr_seq ?_
            refine wr_region ?_
            refine wo_val (.int .i64 (j4 : Int)) rfl pv_move ?_
            refine wo_val (.ptr (ix ids 0) g 0 7) rfl (pv_fa (fa_ptr (c := 0) (off := 7) (i := 7) ti31 rfl ti29 rfl)) ?_
            refine wo_val (.sl 8 (List.map rRule a.Rules)) rfl (pv_load (ld_ptr hI rfl rfl rfl ti29 rfl)) ?_
            refine wo_val (.int .i64 (a.Rules.length : Int)) rfl (pv_len (len_sl ti29)) ?_
            refine wo_val (.bool (decide ((j4 : Int) < (a.Rules.length : Int)))) rfl (pv_bin rfl rfl rfl) ?_
            refine wo_nil ?_
            refine wr_lim (t := 101) (L := a.Rules) rfl fun hlim9 => ?_
            refine wr_condT rfl (Int.ofNat_lt.2 (lt_of_get ha5)) ?_
            refine wr_skip ?_
            refine wr_seq ?_
            refine wr_block ?_
            refine wr_seq ?_
            refine wr_region ?_
            refine wo_val (.ptr (ix ids 0) g 0 7) rfl (pv_fa (fa_ptr (c := 0) (off := 7) (i := 7) ti31 rfl ti29 rfl)) ?_
            refine wo_val (.sl 8 (List.map rRule a.Rules)) rfl (pv_load (ld_ptr hI rfl rfl rfl ti29 rfl)) ?_
            refine wo_val (.int .i64 (j4 : Int)) rfl pv_move ?_
            refine wo_val (.cp (rRule a5) 0) rfl (pv_ixa (ixa_nat ti29 ti63 rfl ha5)) ?_
            refine wo_val (.agg (rRule a5)) rfl (pv_load (ld_cp ti63 rfl)) ?_
            refine wo_alloc (j := 11) hI rfl rfl rfl rfl ti63 rfl fun g16 => ?_
            refine wo_store (st_ptr hI rfl rfl rfl rfl ti63 rfl rfl rfl rfl rfl) ?_
            refine wo_nil ?_
            refine wr_hp [(some (.rows g 8 [(rAirspace a)])), (some (.rows g1 8 [[.emp, .emp, .emp, .emp, .emp, .emp, .emp, .emp]])), (some (.rows g2 8 [[(.sl 2 (List.map rVolume a.Volumes)), v, v2, v4, v6, (.sl 2 (List.map rAirport a.Airports)), (.sl 4 (List.map rClass a.Classes)), v8]])), none, (ownO v g3 5 (List.map rSector l)), none, (ownO v2 g6 3 (List.map rConfig l1)), none, (ownO v4 g9 5 (List.map rSegment l2)), none, (ownO v6 g12 7 (List.map rRoute l3)), (some (.rows g16 8 [(rRule a5)])), (ownO v8 g15 8 (List.map rRule l4))] rfl ?_
            refine wr_seq ?_
            refine wr_region ?_
            refine wo_val (.ptr (ix ids 11) g16 0 3) rfl (pv_fa (fa_ptr (c := 0) (off := 3) (i := 3) ti63 rfl ti3 rfl)) ?_
            refine wo_store (st_ptr hI rfl rfl rfl rfl ti3 rfl rfl rfl rfl rfl) ?_
            refine wo_nil ?_
            refine wr_hp [(some (.rows g 8 [(rAirspace a)])), (some (.rows g1 8 [[.emp, .emp, .emp, .emp, .emp, .emp, .emp, .emp]])), (some (.rows g2 8 [[(.sl 2 (List.map rVolume a.Volumes)), v, v2, v4, v6, (.sl 2 (List.map rAirport a.Airports)), (.sl 4 (List.map rClass a.Classes)), v8]])), none, (ownO v g3 5 (List.map rSector l)), none, (ownO v2 g6 3 (List.map rConfig l1)), none, (ownO v4 g9 5 (List.map rSegment l2)), none, (ownO v6 g12 7 (List.map rRoute l3)), (some (.rows g16 8 [[(.int .i64 a5.Kind), (.str a5.C), (.str a5.A), (.int .i64 0), (.int .i64 a5.Airport), (.int .i64 a5.N), (.int .i64 a5.Hours.From), (.int .i64 a5.Hours.To)]])), (ownO v8 g15 8 (List.map rRule l4))] rfl ?_
            refine wr_seq ?_
            refine wr_region ?_
            refine wo_val (.ptr (ix ids 11) g16 0 4) rfl (pv_fa (fa_ptr (c := 0) (off := 4) (i := 4) ti63 rfl ti3 rfl)) ?_
            refine wo_store (st_ptr hI rfl rfl rfl rfl ti3 rfl rfl rfl rfl rfl) ?_
            refine wo_nil ?_
            refine wr_hp [(some (.rows g 8 [(rAirspace a)])), (some (.rows g1 8 [[.emp, .emp, .emp, .emp, .emp, .emp, .emp, .emp]])), (some (.rows g2 8 [[(.sl 2 (List.map rVolume a.Volumes)), v, v2, v4, v6, (.sl 2 (List.map rAirport a.Airports)), (.sl 4 (List.map rClass a.Classes)), v8]])), none, (ownO v g3 5 (List.map rSector l)), none, (ownO v2 g6 3 (List.map rConfig l1)), none, (ownO v4 g9 5 (List.map rSegment l2)), none, (ownO v6 g12 7 (List.map rRoute l3)), (some (.rows g16 8 [[(.int .i64 a5.Kind), (.str a5.C), (.str a5.A), (.int .i64 0), (.int .i64 0), (.int .i64 a5.N), (.int .i64 a5.Hours.From), (.int .i64 a5.Hours.To)]])), (ownO v8 g15 8 (List.map rRule l4))] rfl ?_
            refine wr_region ?_
            refine wo_val (.ptr (ix ids 2) g2 0 7) rfl (pv_fa (fa_ptr (c := 0) (off := 7) (i := 7) ti31 rfl ti29 rfl)) ?_
            refine wo_val v8 rfl (pv_load (ld_ptr hI rfl rfl rfl ti29 rfl)) ?_
            refine wo_val (.agg [(.int .i64 a5.Kind), (.str a5.C), (.str a5.A), (.int .i64 0), (.int .i64 0), (.int .i64 a5.N), (.int .i64 a5.Hours.From), (.int .i64 a5.Hours.To)]) rfl (pv_load (ld_ptr hI rfl rfl rfl ti63 rfl)) ?_
            refine wo_bsC (e := rRule) (L := [({ Kind := a5.Kind, C := a5.C, A := a5.A, Class := 0, Airport := 0, N := a5.N, Hours := a5.Hours } : Rule)]) (st := 8) (rows := [[(.int .i64 a5.Kind), (.str a5.C), (.str a5.A), (.int .i64 0), (.int .i64 0), (.int .i64 a5.N), (.int .i64 a5.Hours.From), (.int .i64 a5.Hours.To)]]) rfl ti29 ti63 rfl rfl rfl rfl rfl (.cons (.cons (.same _) (.cons (.same _) (.cons (.same _) (.cons (.same _) (.cons (.same _) (.cons (.same _) (.cons (.same _) (.cons (.same _) .nil)))))))) .nil) (fun x => ok_Rule x) rfl rfl ?_
            refine of_need fun hl4 => ?_
            refine wo_append (e := rRule) (L := l4) (L2 := [({ Kind := a5.Kind, C := a5.C, A := a5.A, Class := 0, Airport := 0, N := a5.N, Hours := a5.Hours } : Rule)]) (v := v8) (g := g15) (st := 8) (j := 12) hI rfl rfl rfl rfl vH8 rfl (src_sl rfl) ti29 ti29 rfl ti63 rfl rfl rfl hl4 fun v9 g17 vH9 => ?_
            refine wo_val (.ptr (ix ids 2) g2 0 7) rfl (pv_fa (fa_ptr (c := 0) (off := 7) (i := 7) ti31 rfl ti29 rfl)) ?_
            refine wo_store (st_ptrO vH9 hI rfl rfl rfl rfl ti29 rfl rfl rfl) ?_
            refine wo_nil ?_
            refine wr_hp [(some (.rows g 8 [(rAirspace a)])), (some (.rows g1 8 [[.emp, .emp, .emp, .emp, .emp, .emp, .emp, .emp]])), (some (.rows g2 8 [[(.sl 2 (List.map rVolume a.Volumes)), v, v2, v4, v6, (.sl 2 (List.map rAirport a.Airports)), (.sl 4 (List.map rClass a.Classes)), v9]])), none, (ownO v g3 5 (List.map rSector l)), none, (ownO v2 g6 3 (List.map rConfig l1)), none, (ownO v4 g9 5 (List.map rSegment l2)), none, (ownO v6 g12 7 (List.map rRoute l3)), (some (.rows g16 8 [[(.int .i64 a5.Kind), (.str a5.C), (.str a5.A), (.int .i64 0), (.int .i64 0), (.int .i64 a5.N), (.int .i64 a5.Hours.From), (.int .i64 a5.Hours.To)]])), (ownO v9 g17 8 (List.map rRule (l4 ++ [({ Kind := a5.Kind, C := a5.C, A := a5.A, Class := 0, Airport := 0, N := a5.N, Hours := a5.Hours } : Rule)])))] rfl ?_
            refine wr_inBlock ?_
            refine wr_region ?_
            refine wo_val (.int .i64 (j4 : Int)) rfl pv_move ?_
            refine wo_val (.int .i64 (IntKind.wrap .i64 ((j4 : Int) + 1))) rfl (pv_bin rfl rfl rfl) ?_
            refine wo_val (.int .i64 (IntKind.wrap .i64 ((j4 : Int) + 1))) rfl pv_assign ?_
            refine wo_nil ?_
            refine wr_drop [(some (.rows g 8 [(rAirspace a)])), (some (.rows g1 8 [[.emp, .emp, .emp, .emp, .emp, .emp, .emp, .emp]])), (some (.rows g2 8 [[(.sl 2 (List.map rVolume a.Volumes)), v, v2, v4, v6, (.sl 2 (List.map rAirport a.Airports)), (.sl 4 (List.map rClass a.Classes)), v9]])), none, (ownO v g3 5 (List.map rSector l)), none, (ownO v2 g6 3 (List.map rConfig l1)), none, (ownO v4 g9 5 (List.map rSegment l2)), none, (ownO v6 g12 7 (List.map rRoute l3)), none, (ownO v9 g17 8 (List.map rRule (l4 ++ [({ Kind := a5.Kind, C := a5.C, A := a5.A, Class := 0, Airport := 0, N := a5.N, Hours := a5.Hours } : Rule)])))] hI rfl (.keep (.keep (.keep (.keep (.keep (.keep (.keep (.keep (.keep (.keep (.keep (.drop (.keep .nil))))))))))))) ?_
            refine wr_is [(1, (.ptr (ix ids 0) g 0 0)), (2, (.ptr (ix ids 1) g1 0 0)), (3, (.ptr (ix ids 2) g2 0 0)), (12, (.int .i64 ((j4 + 1 : Nat) : Int)))] (.cons rfl (.cons rfl (.cons rfl (.cons (inc_ok (lt_of_get ha5) hlim9) .nil)))) ?_
            refine wb_S ?_
            refine hW4 (l4 ++ [({ Kind := a5.Kind, C := a5.C, A := a5.A, Class := 0, Airport := 0, N := a5.N, Hours := a5.Hours } : Rule)]) _ _ ?_
            exact ⟨v9, g17, vH9, rfl, rfl⟩
          · rintro l4 fr h ⟨v8, g15, vH8, rfl, rfl⟩
            refine wr_seq ?_
            refine wr_seq ?_
            refine wr_region ?_
            refine wo_val (.int .i64 (a.Rules.length : Int)) rfl pv_move ?_
            refine wo_val (.ptr (ix ids 0) g 0 7) rfl (pv_fa (fa_ptr (c := 0) (off := 7) (i := 7) ti31 rfl ti29 rfl)) ?_
            refine wo_val (.sl 8 (List.map rRule a.Rules)) rfl (pv_load (ld_ptr hI rfl rfl rfl ti29 rfl)) ?_
            refine wo_val (.int .i64 (a.Rules.length : Int)) rfl (pv_len (len_sl ti29)) ?_
            refine wo_val (.bool (decide ((a.Rules.length : Int) < (a.Rules.length : Int)))) rfl (pv_bin rfl rfl rfl) ?_
            refine wo_nil ?_
            refine wr_condF rfl (Int.lt_irrefl _) ?_
            refine wr_exit rfl ?_
            refine wr_seq ?_
            refine wr_region ?_
            refine wo_val (.agg [(.sl 2 (List.map rVolume a.Volumes)), v, v2, v4, v6, (.sl 2 (List.map rAirport a.Airports)), (.sl 4 (List.map rClass a.Classes)), v8]) rfl (pv_load (ld_ptr hI rfl rfl rfl ti31 rfl)) ?_
            refine wo_store (st_ptr hI rfl rfl rfl rfl ti31 rfl rfl rfl rfl (flat_cons rfl (flat_cons (OwnV.flat vH) (flat_cons (OwnV.flat vH2) (flat_cons (OwnV.flat vH4) (flat_cons (OwnV.flat vH6) (flat_cons rfl (flat_cons rfl (flat_cons (OwnV.flat vH8) flat_nil))))))))) ?_
            refine wo_nil ?_
            refine wr_hp [(some (.rows g 8 [(rAirspace a)])), (some (.rows g1 8 [[(.sl 2 (List.map rVolume a.Volumes)), v, v2, v4, v6, (.sl 2 (List.map rAirport a.Airports)), (.sl 4 (List.map rClass a.Classes)), v8]])), (some (.rows g2 8 [[(.sl 2 (List.map rVolume a.Volumes)), v, v2, v4, v6, (.sl 2 (List.map rAirport a.Airports)), (.sl 4 (List.map rClass a.Classes)), v8]])), none, (ownO v g3 5 (List.map rSector l)), none, (ownO v2 g6 3 (List.map rConfig l1)), none, (ownO v4 g9 5 (List.map rSegment l2)), none, (ownO v6 g12 7 (List.map rRoute l3)), none, (ownO v8 g15 8 (List.map rRule l4))] rfl ?_
            exact wr_ret (a := ({ Volumes := a.Volumes, Sectors := l, Configs := l1, Segments := l2, Routes := l3, Airports := a.Airports, Classes := a.Classes, Rules := l4 } : Airspace)) (vs := [(.agg [(.sl 2 (List.map rVolume a.Volumes)), v, v2, v4, v6, (.sl 2 (List.map rAirport a.Airports)), (.sl 4 (List.map rClass a.Classes)), v8])]) Try.func21 hI (ares_cell (ld_ptr hI rfl rfl rfl ti31 rfl) ares_nil) (.aggL (.cons (.same _) (.cons (own_fz vH (hI.at rfl rfl) (hI.out rfl) (fun x => ok_Sector x)) (.cons (own_fz vH2 (hI.at rfl rfl) (hI.out rfl) (fun x => ok_Config x)) (.cons (own_fz vH4 (hI.at rfl rfl) (hI.out rfl) (fun x => ok_Segment x)) (.cons (own_fz vH6 (hI.at rfl rfl) (hI.out rfl) (fun x => ok_Route x)) (.cons (.same _) (.cons (.same _) (.cons (own_fz vH8 (hI.at rfl rfl) (hI.out rfl) (fun x => ok_Rule x)) .nil)))))))))

theorem cp_law09_NamesMeans (a : Airspace) : CP Try.prog 5 [(.agg (rAirspace a))] (law09_NamesMeans a) (fun (x : Bool) => (AV.bool x)) := by
  refine cp_intro (n := 341) 7 Try.func5 rfl (by decide) rfl rfl fun h0 ids hI => ?_
  refine wr_in (wr_mod (law09_NamesMeans.eq_1 _) ?_)
  refine wr_seq ?_
  refine wr_region ?_
  refine wo_box (v := (.agg (rAirspace a))) (j := 0) hI rfl rfl rfl rfl rfl rfl rfl fun g => ?_
  refine wo_val (.bool false) rfl pv_assign ?_
  refine wo_nil ?_
  refine wr_hp [(some (.rows g 8 [(rAirspace a)])), none, none, none, none, none, none] rfl ?_
  refine wr_seq ?_
  refine wr_seq ?_
  refine wr_region ?_
  refine of_call [] rfl rfl rfl rfl ((cp_law09_sane) _) (fun v _ => wu_pan Try.func5 hI) fun r _ => ?_
  refine wo_val (.bool (!r)) rfl (pv_un rfl) ?_
  refine wo_nil ?_
  refine wf_itebn rfl (fun hc => ?_) (fun hc => ?_)
  · refine wr_skip ?_
    refine wr_seq ?_
    refine wr_seq ?_
    refine wr_region ?_
    refine wo_val (.agg (rAirspace a)) rfl (pv_load (ld_ptr hI rfl rfl rfl ti31 rfl)) ?_
    refine of_call [(.agg (rAirspace a))] rfl rfl rfl rfl ((cp_ref09_Few a) _) (fun v _ => wu_pan Try.func5 hI) fun r1 _ => ?_
    refine wo_val (.bool (!r1)) rfl (pv_un rfl) ?_
    refine wo_nil ?_
    refine wf_itebn rfl (fun hc1 => ?_) (fun hc1 => ?_)
    · refine wr_skip ?_
      refine wr_seq ?_
      refine wr_region ?_
      refine wo_val (.agg (rAirspace a)) rfl (pv_load (ld_ptr hI rfl rfl rfl ti31 rfl)) ?_
      refine of_call [(.agg (rAirspace a))] rfl rfl rfl rfl ((cp_names_Resolve a) _) (fun v _ => wu_pan Try.func5 hI) fun r2 _ => ?_
      refine wo_val (.tup [(.agg (rAirspace r2.1)), (.int .i64 r2.2)]) rfl pv_move ?_
      refine wo_val (.agg (rAirspace r2.1)) rfl (pv_ext rfl) ?_
      refine wo_val (.int .i64 r2.2) rfl (pv_ext rfl) ?_
      refine wo_alloc (j := 1) hI rfl rfl rfl rfl ti31 rfl fun g1 => ?_
      refine wo_store (st_ptr hI rfl rfl rfl rfl ti31 rfl rfl rfl rfl rfl) ?_
      refine wo_val (.int .i64 r2.2) rfl pv_assign ?_
      refine wo_nil ?_
      refine wr_hp [(some (.rows g 8 [(rAirspace a)])), (some (.rows g1 8 [(rAirspace r2.1)])), none, none, none, none, none] rfl ?_
      refine wr_seq ?_
      refine wr_seq ?_
      refine wr_region ?_
      refine wo_val (.int .i64 r2.2) rfl pv_move ?_
      refine wo_val (.bool (r2.2 != 0)) rfl (pv_bin rfl rfl rfl) ?_
      refine wo_nil ?_
      refine wf_iteb rfl (fun hc2 => ?_) (fun hc2 => ?_)
      · refine wr_seq ?_
        refine wr_region ?_
        refine wo_val (.int .i64 r2.2) rfl pv_move ?_
        refine wo_val (.bool (r2.2 == 91)) rfl (pv_bin rfl rfl rfl) ?_
        refine wo_val (.bool (r2.2 == 91)) rfl pv_move ?_
        refine wo_meet 3 [(3, (.ptr (ix ids 1) g1 0 0)), (38, (.bool ((r2.2 == 91) || (r2.2 == 90))))] ?_ fun hJ => wo_cases (r2.2 == 91) (fun hb1 => ?_) (fun hb1 => ?_)
        · refine wo_val (.bool ((r2.2 == 91) || (r2.2 == 90))) rfl pv_move ?_
          refine wo_join 4 ((fun (b : Bool) => .ok b) : Bool → R Bool) (fun (b : Bool) (fr : Nat → AV) (h : AHeap) => fr = frA [(43, (.bool b))] ∧ h = hp h0 ids [(some (.rows g 8 [(rAirspace a)])), (some (.rows g1 8 [(rAirspace r2.1)])), none, none, none, none, none]) ?_ fun hJ1 => of_if1 (fun hb3 => ?_) (fun hb3 => ?_)
          · rintro b fr h ⟨rfl, rfl⟩
            refine wo_val (.bool b) rfl pv_assign ?_
            refine wo_nil ?_
            exact wr_ret (a := b) (vs := [(.bool b)]) Try.func5 hI rfl (.same _)
          · refine wo_valg (tj := 39) (.agg (rAirspace r2.1)) rfl (congrArg AV.bool hb3) rfl (pv_load (ld_ptr hI rfl rfl rfl ti31 rfl)) ?_
            refine wo_valg (tj := 39) (.agg [.emp, .emp, .emp, .emp, .emp, .emp, .emp, .emp]) rfl (congrArg AV.bool hb3) rfl (pv_build (bd_st ti31 pl31 rfl)) ?_
            refine of_call [(.agg (rAirspace r2.1)), (.agg [.emp, .emp, .emp, .emp, .emp, .emp, .emp, .emp])] rfl (wanted_yes (tj := 39) rfl (congrArg AV.bool hb3)) rfl rfl (fun hb => ACalls.weak (.cons (.same _) (.cons (.aggL (.cons (.emp _) (.cons (.emp _) (.cons (.emp _) (.cons (.emp _) (.cons (.emp _) (.cons (.emp _) (.cons (.emp _) (.cons (.emp _) .nil))))))))) .nil)) ((cp_ref08_Same r2.1 ({ Volumes := [], Sectors := [], Configs := [], Segments := [], Routes := [], Airports := [], Classes := [], Rules := [] } : Airspace)) _ hb)) (fun v _ => wu_pan Try.func5 hI) fun r3 _ => ?_
            refine wo_val (.bool r3) rfl (pv_pick (t := true) (congrArg AV.bool hb3) rfl) ?_
            refine wo_back1 ?_
            refine wo_is [(43, (.bool r3))] (.cons rfl .nil) ?_
            exact hJ1 r3 _ _ ⟨rfl, rfl⟩
          · refine wo_not (tj := 39) (b := false) rfl (congrArg AV.bool hb3) rfl rfl ?_
            refine wo_not (tj := 39) (b := false) rfl (congrArg AV.bool hb3) rfl rfl ?_
            refine wo_not (tj := 39) (b := false) rfl (congrArg AV.bool hb3) rfl rfl ?_
            refine wo_val (.bool false) rfl (pv_pick (t := false) (congrArg AV.bool hb3) rfl) ?_
            refine wo_back1 ?_
            refine wo_is [(43, (.bool false))] (.cons rfl .nil) ?_
            exact hJ1 false _ _ ⟨rfl, rfl⟩
        · refine wo_not (tj := 35) (b := true) rfl (congrArg AV.bool hb1) rfl rfl ?_
          refine wo_not (tj := 35) (b := true) rfl (congrArg AV.bool hb1) rfl rfl ?_
          refine wo_val (.bool true) rfl (pv_pick (t := true) (congrArg AV.bool hb1) rfl) ?_
          exact wo_is [(3, (.ptr (ix ids 1) g1 0 0)), (38, (.bool ((r2.2 == 91) || (r2.2 == 90))))] (.cons rfl (.cons (or_t hb1) .nil)) hJ
        · refine wo_valg (tj := 35) (.int .i64 r2.2) rfl (congrArg AV.bool hb1) rfl pv_move ?_
          refine wo_valg (tj := 35) (.bool (r2.2 == 90)) rfl (congrArg AV.bool hb1) rfl (pv_bin rfl rfl rfl) ?_
          refine wo_val (.bool (r2.2 == 90)) rfl (pv_pick (t := false) (congrArg AV.bool hb1) rfl) ?_
          exact wo_is [(3, (.ptr (ix ids 1) g1 0 0)), (38, (.bool ((r2.2 == 91) || (r2.2 == 90))))] (.cons rfl (.cons (or_f hb1) .nil)) hJ
      · refine wr_skip ?_
        refine wr_seq ?_
        refine wr_seq ?_
        refine wr_draw hmix [[], [0], [], [0, 1, 2], [0, 1, 2, 3], [0, 1, 2, 3, 4]] [(false, 0), (false, 2), (true, 1), (true, 3), (true, 4), (false, 5)] (by kernel_rfl) ?_
        refine wp_val (.agg (rAirspace r2.1)) rfl rfl (pv_load (ld_ptr hI rfl rfl rfl ti31 rfl)) ?_
        refine wp_val (.agg (rAirspace a)) rfl rfl (pv_load (ld_ptr hI rfl rfl rfl ti31 rfl)) ?_
        refine wp_call [(.agg (rAirspace r2.1))] rfl rfl rfl rfl rfl ((cp_ref08_Unnumbered r2.1) _) (fun v _ _ _ => wu_pan Try.func5 hI) (pend_no rfl (pv_load (ld_ptr hI rfl rfl rfl ti31 rfl)) (pend_yes rfl pend_nil)) fun r4 _ => ?_
        refine wp_call [(.agg (rAirspace a))] rfl rfl rfl rfl rfl ((cp_ref08_Unnumbered a) _) (fun v _ _ _ => wu_pan Try.func5 hI) (pend_yes rfl (pend_yes rfl pend_nil)) fun r5 _ => ?_
        refine wp_call [(.agg (rAirspace r4)), (.agg (rAirspace r5))] rfl rfl rfl rfl rfl ((cp_ref08_Same r4 r5) _) (fun v _ _ _ => wu_pan Try.func5 hI) (pend_yes rfl (pend_yes rfl pend_nil)) fun r6 _ => ?_
        refine wp_val (.bool (!r6)) rfl rfl (pv_un rfl) ?_
        refine wp_nil ?_
        refine wf_itebn rfl (fun hc3 => ?_) (fun hc3 => ?_)
        · refine wr_skip ?_
          refine wr_seq ?_
          refine wr_seq ?_
          refine wr_region ?_
          refine wo_val (.ptr (ix ids 1) g1 0 1) rfl (pv_fa (fa_ptr (c := 0) (off := 1) (i := 1) ti31 rfl ti23 rfl)) ?_
          refine wo_val (.sl 5 (List.map rSector r2.1.Sectors)) rfl (pv_load (ld_ptr hI rfl rfl rfl ti23 rfl)) ?_
          refine wo_val (.int .i64 (r2.1.Sectors.length : Int)) rfl (pv_len (len_sl ti23)) ?_
          refine wo_val (.int .i64 0) rfl pv_move ?_
          refine wo_nil ?_
          refine wr_block ?_
          refine wr_drop [none, (some (.rows g1 8 [(rAirspace r2.1)])), none, none, none, none, none] hI rfl (.drop (.keep (.keep (.keep (.keep (.keep (.keep .nil))))))) ?_
          refine wr_is [(3, (.ptr (ix ids 1) g1 0 0)), (51, (.sl 5 (List.map rSector r2.1.Sectors))), (52, (.int .i64 (r2.1.Sectors.length : Int))), (53, (.int .i64 0))] (.cons rfl (.cons rfl (.cons rfl (.cons rfl .nil)))) ?_
          refine wf_each' r2.1.Sectors (fun _ a1 => fun _ => law09_NamesMeans_b2 r r2 a1) ((alt (fun _ => (each (fun _ a5 => fun _ => law09_NamesMeans_b4 r r2 a5) 0 r2.1.Configs ()).bind (alt (fun _ => (each (fun _ a9 => fun _ => law09_NamesMeans_b5 r2 a9) 0 r2.1.Segments ()).bind (alt (fun _ => (each (fun _ a11 => fun _ => law09_NamesMeans_b7 r r2 a11) 0 r2.1.Routes ()).bind (alt (fun _ => (each (fun _ a17 => fun _ => law09_NamesMeans_b8 r2 a17) 0 r2.1.Rules ()).bind (alt (fun _ => .ok true) (fun r => .ok r))) (fun r => .ok r))) (fun r => .ok r))) (fun r => .ok r))) (fun r => .ok r)) : _ → R Bool)
            (fun j => fun _ => fun (fr : Nat → AV) (h : AHeap) => fr = frA [(3, (.ptr (ix ids 1) g1 0 0)), (51, (.sl 5 (List.map rSector r2.1.Sectors))), (52, (.int .i64 (r2.1.Sectors.length : Int))), (53, (.int .i64 (j : Int)))] ∧ h = hp h0 ids [none, (some (.rows g1 8 [(rAirspace r2.1)])), none, none, none, none, none]) () ?_ ?_ ?_
          · exact ⟨rfl, rfl⟩
          · rintro j a1 ha1 W hW _ fr h ⟨rfl, rfl⟩
            refine wr_mod (m' := law09_NamesMeans_b2 r r2 a1) rfl (wr_mod (law09_NamesMeans_b2.eq_1 _ _ _) ?_)
            refine wr_seq ?_
            refine wr_region ?_
            refine wo_val (.bool (decide ((j : Int) < (r2.1.Sectors.length : Int)))) rfl (pv_bin rfl rfl rfl) ?_
            refine wo_nil ?_
            refine wr_seq ?_
            refine wr_lim (t := 51) (L := r2.1.Sectors) rfl fun hlim => ?_
            refine wr_condT rfl (Int.ofNat_lt.2 (lt_of_get ha1)) ?_
            refine wr_skip ?_
            refine wr_seq ?_
            refine wr_block ?_
            refine wr_seq ?_
            refine wr_region ?_
            refine wo_val (.cp (rSector a1) 0) rfl (pv_ixa (ixa_nat ti23 ti53 rfl ha1)) ?_
            refine wo_val (.agg (rSector a1)) rfl (pv_load (ld_cp ti53 rfl)) ?_
            refine wo_alloc (j := 2) hI rfl rfl rfl rfl ti53 rfl fun g2 => ?_
            refine wo_store (st_ptr hI rfl rfl rfl rfl ti53 rfl rfl rfl rfl rfl) ?_
            refine wo_nil ?_
            refine wr_hp [none, (some (.rows g1 8 [(rAirspace r2.1)])), (some (.rows g2 5 [(rSector a1)])), none, none, none, none] rfl ?_
            refine wr_seq ?_
            refine wr_seq ?_
            refine wr_region ?_
            refine wo_val (.ptr (ix ids 2) g2 0 2) rfl (pv_fa (fa_ptr (c := 0) (off := 2) (i := 2) ti53 rfl ti51 rfl)) ?_
            refine wo_val (.sl 1 (List.map (rI .i64) a1.Volumes)) rfl (pv_load (ld_ptr hI rfl rfl rfl ti51 rfl)) ?_
            refine wo_val (.int .i64 (a1.Volumes.length : Int)) rfl (pv_len (len_sl ti51)) ?_
            refine wo_val (.ptr (ix ids 2) g2 0 1) rfl (pv_fa (fa_ptr (c := 0) (off := 1) (i := 1) ti53 rfl ti38 rfl)) ?_
            refine wo_val (.sl 1 (List.map rS a1.Names)) rfl (pv_load (ld_ptr hI rfl rfl rfl ti38 rfl)) ?_
            refine wo_val (.int .i64 (a1.Names.length : Int)) rfl (pv_len (len_sl ti38)) ?_
            refine wo_val (.bool ((a1.Volumes.length : Int) != (a1.Names.length : Int))) rfl (pv_bin rfl rfl rfl) ?_
            refine wo_nil ?_
            refine wf_iteb rfl (fun hc4 => ?_) (fun hc4 => ?_)
            · refine wr_seq ?_
              refine wr_region ?_
              refine wo_val (.bool false) rfl pv_assign ?_
              refine wo_nil ?_
              refine wx_each ?_
              refine w_altr ?_
              exact wr_ret (a := false) (vs := [(.bool false)]) Try.func5 hI rfl (.same _)
            · refine wr_skip ?_
              refine wr_seq ?_
              refine wr_region ?_
              refine wo_val (.ptr (ix ids 2) g2 0 2) rfl (pv_fa (fa_ptr (c := 0) (off := 2) (i := 2) ti53 rfl ti51 rfl)) ?_
              refine wo_val (.sl 1 (List.map (rI .i64) a1.Volumes)) rfl (pv_load (ld_ptr hI rfl rfl rfl ti51 rfl)) ?_
              refine wo_val (.int .i64 (a1.Volumes.length : Int)) rfl (pv_len (len_sl ti51)) ?_
              refine wo_val (.int .i64 0) rfl pv_move ?_
              refine wo_nil ?_
              refine wr_block ?_
              refine wr_is [(3, (.ptr (ix ids 1) g1 0 0)), (6, (.ptr (ix ids 2) g2 0 0)), (51, (.sl 5 (List.map rSector r2.1.Sectors))), (52, (.int .i64 (r2.1.Sectors.length : Int))), (53, (.int .i64 (j : Int))), (65, (.sl 1 (List.map (rI .i64) a1.Volumes))), (66, (.int .i64 (a1.Volumes.length : Int))), (67, (.int .i64 0))] (.cons rfl (.cons rfl (.cons rfl (.cons rfl (.cons rfl (.cons rfl (.cons rfl (.cons rfl .nil)))))))) ?_
              refine wf_each' a1.Volumes (fun j1 a2 => fun _ => law09_NamesMeans_b1 r2 a1 j1 a2) ((alt (fun _ => .ok (.inl ())) (fun r => .ok (.inr (r)))) : _ → R (Unit ⊕ Bool))
                (fun j1 => fun _ => fun (fr : Nat → AV) (h : AHeap) => fr = frA [(3, (.ptr (ix ids 1) g1 0 0)), (6, (.ptr (ix ids 2) g2 0 0)), (51, (.sl 5 (List.map rSector r2.1.Sectors))), (52, (.int .i64 (r2.1.Sectors.length : Int))), (53, (.int .i64 (j : Int))), (65, (.sl 1 (List.map (rI .i64) a1.Volumes))), (66, (.int .i64 (a1.Volumes.length : Int))), (67, (.int .i64 (j1 : Int)))] ∧ h = hp h0 ids [none, (some (.rows g1 8 [(rAirspace r2.1)])), (some (.rows g2 5 [(rSector a1)])), none, none, none, none]) () ?_ ?_ ?_
              · exact ⟨rfl, rfl⟩
              · rintro j1 a2 ha2 W hW1 _ fr h ⟨rfl, rfl⟩
                refine wr_mod (m' := law09_NamesMeans_b1 r2 a1 j1 a2) rfl (wr_mod (law09_NamesMeans_b1.eq_1 _ _ _ _) ?_)
                refine wr_seq ?_
                refine wr_region ?_
                refine wo_val (.bool (decide ((j1 : Int) < (a1.Volumes.length : Int)))) rfl (pv_bin rfl rfl rfl) ?_
                refine wo_nil ?_
                refine wr_seq ?_
                refine wr_lim (t := 65) (L := a1.Volumes) rfl fun hlim1 => ?_
                refine wr_condT rfl (Int.ofNat_lt.2 (lt_of_get ha2)) ?_
                refine wr_skip ?_
                refine wr_seq ?_
                refine wr_block ?_
                refine wr_seq ?_
                refine wr_region ?_
                refine wo_val (.int .i64 (j1 : Int)) rfl pv_move ?_
                refine wo_val (.cp [(.int .i64 a2)] 0) rfl (pv_ixa (ixa_nat ti51 ti3 rfl ha2)) ?_
                refine wo_val (.int .i64 a2) rfl (pv_load (ld_cp ti3 rfl)) ?_
                refine wo_val (.int .i64 (j1 : Int)) rfl pv_assign ?_
                refine wo_val (.int .i64 a2) rfl pv_assign ?_
                refine wo_nil ?_
                refine wr_seq ?_
                refine wf_join (fun x2 => law09_NamesMeans_j1 x2) (fun x2 => fun (fr : Nat → AV) (h : AHeap) => fr = frA [(3, (.ptr (ix ids 1) g1 0 0)), (6, (.ptr (ix ids 2) g2 0 0)), (51, (.sl 5 (List.map rSector r2.1.Sectors))), (52, (.int .i64 (r2.1.Sectors.length : Int))), (53, (.int .i64 (j : Int))), (65, (.sl 1 (List.map (rI .i64) a1.Volumes))), (66, (.int .i64 (a1.Volumes.length : Int))), (67, (.int .i64 (j1 : Int))), (94, (.bool x2))] ∧ h = hp h0 ids [none, (some (.rows g1 8 [(rAirspace r2.1)])), (some (.rows g2 5 [(rSector a1)])), none, none, none, none]) ?_ fun hJ2 => ?_
                · rintro x2 fr h ⟨rfl, rfl⟩
                  refine wr_mod (law09_NamesMeans_j1.eq_1 _) ?_
                  refine wf_iteb rfl (fun hc5 => ?_) (fun hc5 => ?_)
                  · refine wr_seq ?_
                    refine wr_region ?_
                    refine wo_val (.bool false) rfl pv_assign ?_
                    refine wo_nil ?_
                    refine wx_each ?_
                    refine w_altr ?_
                    refine wx_each ?_
                    refine w_altr ?_
                    exact wr_ret (a := false) (vs := [(.bool false)]) Try.func5 hI rfl (.same _)
                  · refine wr_skip ?_
                    refine wr_inBlock ?_
                    refine wr_region ?_
                    refine wo_val (.int .i64 (IntKind.wrap .i64 ((j1 : Int) + 1))) rfl (pv_bin rfl rfl rfl) ?_
                    refine wo_val (.int .i64 (IntKind.wrap .i64 ((j1 : Int) + 1))) rfl pv_move ?_
                    refine wo_nil ?_
                    refine wr_is [(3, (.ptr (ix ids 1) g1 0 0)), (6, (.ptr (ix ids 2) g2 0 0)), (51, (.sl 5 (List.map rSector r2.1.Sectors))), (52, (.int .i64 (r2.1.Sectors.length : Int))), (53, (.int .i64 (j : Int))), (65, (.sl 1 (List.map (rI .i64) a1.Volumes))), (66, (.int .i64 (a1.Volumes.length : Int))), (67, (.int .i64 ((j1 + 1 : Nat) : Int)))] (.cons rfl (.cons rfl (.cons rfl (.cons rfl (.cons rfl (.cons rfl (.cons rfl (.cons (inc_ok (lt_of_get ha2) hlim1) .nil)))))))) ?_
                    refine wb_each ?_
                    refine hW1 () _ _ ?_
                    exact ⟨rfl, rfl⟩
                · refine wr_draw hmix [[], [0], [0, 1], [0, 1, 2], [0, 1, 2], [0, 1, 2, 4], [0, 1, 2, 4, 5], [0, 1, 2, 3, 4, 5, 6], [0, 1, 2, 3, 4, 5, 6, 7], [0, 1, 2, 3, 4, 5, 6, 7, 8], [0, 1, 2, 3, 4, 5, 6, 7, 8, 9], [0, 1, 2, 3, 4, 5, 6, 7, 8, 9, 10], [0, 1, 2, 3, 4, 5, 6, 7, 8, 9], [0, 1, 2, 3, 4, 5, 6, 7, 8, 9, 10, 11, 12], [0, 1, 2, 3, 4, 5, 6, 7, 8, 9, 10, 11, 12, 13], [0, 1, 2, 3, 4, 5, 6, 7, 8, 9, 10, 11, 12, 13, 14], [0, 1, 2, 3, 4, 5, 6, 7, 8, 9], [0, 1, 2, 3, 4, 5, 6, 7, 8, 9, 16], [0, 1, 2, 3, 4, 5, 6, 7, 8, 9], [0, 1, 2, 3, 4, 5, 6, 7, 8, 9, 16, 17, 18], [0, 1, 2, 3, 4, 5, 6, 7, 8, 9, 16, 17, 18, 19], [0, 1, 2, 3, 4, 5, 6, 7, 8, 9, 10, 11, 12, 13, 14, 15, 16, 17, 18, 19, 20], [0, 1, 2, 3, 4, 5, 6, 7, 8, 9, 10, 11, 12, 13, 14, 15, 16, 17, 18, 19, 20, 21]] [(false, 0), (false, 1), (false, 2), (false, 3), (false, 4), (false, 5), (false, 6), (false, 7), (false, 8), (false, 9), (false, 10), (false, 11), (false, 12), (false, 13), (false, 14), (false, 15), (false, 16), (false, 17), (false, 18), (false, 19), (false, 20), (false, 21), (false, 22)] (by kernel_rfl) ?_
                  refine wp_val (.int .i64 a2) rfl rfl pv_move ?_
                  refine wp_val (.bool (decide (a2 < 0))) rfl rfl (pv_bin rfl rfl rfl) ?_
                  refine wp_val (.bool (decide (a2 < 0))) rfl rfl pv_move ?_
                  refine op_iteb (fun hb4 => ?_) (fun hb4 => ?_)
                  · refine wp_not (tj := 74) (b := true) rfl rfl (congrArg AV.bool hb4) rfl rfl ?_
                    refine wp_not (tj := 74) (b := true) rfl rfl (congrArg AV.bool hb4) rfl rfl ?_
                    refine wp_not (tj := 74) (b := true) rfl rfl (congrArg AV.bool hb4) rfl rfl ?_
                    refine wp_not (tj := 74) (b := true) rfl rfl (congrArg AV.bool hb4) rfl rfl ?_
                    refine wp_not (tj := 74) (b := true) rfl rfl (congrArg AV.bool hb4) rfl rfl ?_
                    refine wp_val (.bool true) rfl rfl (pv_pick (t := true) (congrArg AV.bool hb4) rfl) ?_
                    refine wp_val (.bool true) rfl rfl pv_move ?_
                    refine wp_not (tj := 81) (b := true) rfl rfl rfl rfl rfl ?_
                    refine wp_not (tj := 81) (b := true) rfl rfl rfl rfl rfl ?_
                    refine wp_not (tj := 81) (b := true) rfl rfl rfl rfl rfl ?_
                    refine wp_not (tj := 81) (b := true) rfl rfl rfl rfl rfl ?_
                    refine wp_not (tj := 81) (b := true) rfl rfl rfl rfl rfl ?_
                    refine wp_not (tj := 81) (b := true) rfl rfl rfl rfl rfl ?_
                    refine wp_not (tj := 81) (b := true) rfl rfl rfl rfl rfl ?_
                    refine wp_not (tj := 81) (b := true) rfl rfl rfl rfl rfl ?_
                    refine wp_not (tj := 81) (b := true) rfl rfl rfl rfl rfl ?_
                    refine wp_not (tj := 81) (b := true) rfl rfl rfl rfl rfl ?_
                    refine wp_not (tj := 81) (b := true) rfl rfl rfl rfl rfl ?_
                    refine wp_not (tj := 81) (b := true) rfl rfl rfl rfl rfl ?_
                    refine wp_val (.bool true) rfl rfl (pv_pick (t := true) rfl rfl) ?_
                    refine wp_nil ?_
                    refine wr_is [(3, (.ptr (ix ids 1) g1 0 0)), (6, (.ptr (ix ids 2) g2 0 0)), (51, (.sl 5 (List.map rSector r2.1.Sectors))), (52, (.int .i64 (r2.1.Sectors.length : Int))), (53, (.int .i64 (j : Int))), (65, (.sl 1 (List.map (rI .i64) a1.Volumes))), (66, (.int .i64 (a1.Volumes.length : Int))), (67, (.int .i64 (j1 : Int))), (94, (.bool true))] (.cons rfl (.cons rfl (.cons rfl (.cons rfl (.cons rfl (.cons rfl (.cons rfl (.cons rfl (.cons rfl .nil))))))))) ?_
                    refine hJ2 true _ _ ?_
                    exact ⟨rfl, rfl⟩
                  · refine wp_valg (tj := 74) (.int .i64 a2) rfl rfl (congrArg AV.bool hb4) rfl pv_move ?_
                    refine wp_valg (tj := 74) (.ptr (ix ids 1) g1 0 0) rfl rfl (congrArg AV.bool hb4) rfl (pv_fa (fa_ptr (c := 0) (off := 0) (i := 0) ti31 rfl ti22 rfl)) ?_
                    refine wp_valg (tj := 74) (.sl 2 (List.map rVolume r2.1.Volumes)) rfl rfl (congrArg AV.bool hb4) rfl (pv_load (ld_ptr hI rfl rfl rfl ti22 rfl)) ?_
                    refine wp_valg (tj := 74) (.int .i64 (r2.1.Volumes.length : Int)) rfl rfl (congrArg AV.bool hb4) rfl (pv_len (len_sl ti22)) ?_
                    refine wp_valg (tj := 74) (.bool (decide (a2 ≥ (r2.1.Volumes.length : Int)))) rfl rfl (congrArg AV.bool hb4) rfl (pv_bin rfl rfl rfl) ?_
                    refine wp_val (.bool (decide (a2 ≥ (r2.1.Volumes.length : Int)))) rfl rfl (pv_pick (t := false) (congrArg AV.bool hb4) rfl) ?_
                    refine wp_val (.bool (decide (a2 ≥ (r2.1.Volumes.length : Int)))) rfl rfl pv_move ?_
                    refine op_iteb (fun hb5 => ?_) (fun hb5 => ?_)
                    · refine wp_not (tj := 81) (b := true) rfl rfl (congrArg AV.bool hb5) rfl rfl ?_
                      refine wp_not (tj := 81) (b := true) rfl rfl (congrArg AV.bool hb5) rfl rfl ?_
                      refine wp_not (tj := 81) (b := true) rfl rfl (congrArg AV.bool hb5) rfl rfl ?_
                      refine wp_not (tj := 81) (b := true) rfl rfl (congrArg AV.bool hb5) rfl rfl ?_
                      refine wp_not (tj := 81) (b := true) rfl rfl (congrArg AV.bool hb5) rfl rfl ?_
                      refine wp_not (tj := 81) (b := true) rfl rfl (congrArg AV.bool hb5) rfl rfl ?_
                      refine wp_not (tj := 81) (b := true) rfl rfl (congrArg AV.bool hb5) rfl rfl ?_
                      refine wp_not (tj := 81) (b := true) rfl rfl (congrArg AV.bool hb5) rfl rfl ?_
                      refine wp_not (tj := 81) (b := true) rfl rfl (congrArg AV.bool hb5) rfl rfl ?_
                      refine wp_not (tj := 81) (b := true) rfl rfl (congrArg AV.bool hb5) rfl rfl ?_
                      refine wp_not (tj := 81) (b := true) rfl rfl (congrArg AV.bool hb5) rfl rfl ?_
                      refine wp_not (tj := 81) (b := true) rfl rfl (congrArg AV.bool hb5) rfl rfl ?_
                      refine wp_val (.bool true) rfl rfl (pv_pick (t := true) (congrArg AV.bool hb5) rfl) ?_
                      refine wp_nil ?_
                      refine wr_is [(3, (.ptr (ix ids 1) g1 0 0)), (6, (.ptr (ix ids 2) g2 0 0)), (51, (.sl 5 (List.map rSector r2.1.Sectors))), (52, (.int .i64 (r2.1.Sectors.length : Int))), (53, (.int .i64 (j : Int))), (65, (.sl 1 (List.map (rI .i64) a1.Volumes))), (66, (.int .i64 (a1.Volumes.length : Int))), (67, (.int .i64 (j1 : Int))), (94, (.bool true))] (.cons rfl (.cons rfl (.cons rfl (.cons rfl (.cons rfl (.cons rfl (.cons rfl (.cons rfl (.cons rfl .nil))))))))) ?_
                      refine hJ2 true _ _ ?_
                      exact ⟨rfl, rfl⟩
                    · refine wp_valg (tj := 81) (.ptr (ix ids 1) g1 0 0) rfl rfl (congrArg AV.bool hb5) rfl (pv_fa (fa_ptr (c := 0) (off := 0) (i := 0) ti31 rfl ti22 rfl)) ?_
                      refine wp_valg (tj := 81) (.sl 2 (List.map rVolume r2.1.Volumes)) rfl rfl (congrArg AV.bool hb5) rfl (pv_load (ld_ptr hI rfl rfl rfl ti22 rfl)) ?_
                      refine wp_valg (tj := 81) (.int .i64 a2) rfl rfl (congrArg AV.bool hb5) rfl pv_move ?_
                      refine op_idx fun a3 hz hx1 => ?_
                      refine wp_valg (tj := 81) (.cp (rVolume a3) 0) rfl rfl (congrArg AV.bool hb5) rfl (pv_ixa (ixa_sl ti22 ti41 rfl hz hx1)) ?_
                      refine wp_valg (tj := 81) (.cp (rVolume a3) 0) rfl rfl (congrArg AV.bool hb5) rfl (pv_fa (fa_cp (c := 0) (off := 0) (i := 0) ti41 rfl ti9 rfl)) ?_
                      refine wp_valg (tj := 81) (.str a3.Name) rfl rfl (congrArg AV.bool hb5) rfl (pv_load (ld_cp ti9 rfl)) ?_
                      refine wp_valg (tj := 81) (.ptr (ix ids 2) g2 0 1) rfl rfl (congrArg AV.bool hb5) rfl (pv_fa (fa_ptr (c := 0) (off := 1) (i := 1) ti53 rfl ti38 rfl)) ?_
                      refine wp_valg (tj := 81) (.sl 1 (List.map rS a1.Names)) rfl rfl (congrArg AV.bool hb5) rfl (pv_load (ld_ptr hI rfl rfl rfl ti38 rfl)) ?_
                      refine wp_valg (tj := 81) (.int .i64 (j1 : Int)) rfl rfl (congrArg AV.bool hb5) rfl pv_move ?_
                      refine op_idx fun a4 hz1 hx2 => ?_
                      refine wp_valg (tj := 81) (.cp [(.str a4)] 0) rfl rfl (congrArg AV.bool hb5) rfl (pv_ixa (ixa_sl ti38 ti9 rfl hz1 hx2)) ?_
                      refine wp_valg (tj := 81) (.str a4) rfl rfl (congrArg AV.bool hb5) rfl (pv_load (ld_cp ti9 rfl)) ?_
                      refine wp_valg (tj := 81) (.bool (!(a3.Name == a4))) rfl rfl (congrArg AV.bool hb5) rfl (pv_bin rfl rfl rfl) ?_
                      refine wp_val (.bool (!(a3.Name == a4))) rfl rfl (pv_pick (t := false) (congrArg AV.bool hb5) rfl) ?_
                      refine wp_nil ?_
                      refine wr_is [(3, (.ptr (ix ids 1) g1 0 0)), (6, (.ptr (ix ids 2) g2 0 0)), (51, (.sl 5 (List.map rSector r2.1.Sectors))), (52, (.int .i64 (r2.1.Sectors.length : Int))), (53, (.int .i64 (j : Int))), (65, (.sl 1 (List.map (rI .i64) a1.Volumes))), (66, (.int .i64 (a1.Volumes.length : Int))), (67, (.int .i64 (j1 : Int))), (94, (.bool (!(a3.Name == a4))))] (.cons rfl (.cons rfl (.cons rfl (.cons rfl (.cons rfl (.cons rfl (.cons rfl (.cons rfl (.cons rfl .nil))))))))) ?_
                      refine hJ2 (!(a3.Name == a4)) _ _ ?_
                      exact ⟨rfl, rfl⟩
              · rintro _ fr h ⟨rfl, rfl⟩
                refine wr_mod (alt_inl _ _ _) ?_
                refine wr_seq ?_
                refine wr_region ?_
                refine wo_val (.bool (decide ((a1.Volumes.length : Int) < (a1.Volumes.length : Int)))) rfl (pv_bin rfl rfl rfl) ?_
                refine wo_nil ?_
                refine wr_seq ?_
                refine wr_condF rfl (Int.lt_irrefl _) ?_
                refine wr_exit rfl ?_
                refine wr_inBlock ?_
                refine wr_region ?_
                refine wo_val (.int .i64 (IntKind.wrap .i64 ((j : Int) + 1))) rfl (pv_bin rfl rfl rfl) ?_
                refine wo_val (.int .i64 (IntKind.wrap .i64 ((j : Int) + 1))) rfl pv_move ?_
                refine wo_nil ?_
                refine wr_drop [none, (some (.rows g1 8 [(rAirspace r2.1)])), none, none, none, none, none] hI rfl (.keep (.keep (.drop (.keep (.keep (.keep (.keep .nil))))))) ?_
                refine wr_is [(3, (.ptr (ix ids 1) g1 0 0)), (51, (.sl 5 (List.map rSector r2.1.Sectors))), (52, (.int .i64 (r2.1.Sectors.length : Int))), (53, (.int .i64 ((j + 1 : Nat) : Int)))] (.cons rfl (.cons rfl (.cons rfl (.cons (inc_ok (lt_of_get ha1) hlim) .nil)))) ?_
                refine wb_each ?_
                refine hW () _ _ ?_
                exact ⟨rfl, rfl⟩
          · rintro _ fr h ⟨rfl, rfl⟩
            refine wr_mod (alt_inl _ _ _) ?_
            refine wr_seq ?_
            refine wr_region ?_
            refine wo_val (.bool (decide ((r2.1.Sectors.length : Int) < (r2.1.Sectors.length : Int)))) rfl (pv_bin rfl rfl rfl) ?_
            refine wo_nil ?_
            refine wr_seq ?_
            refine wr_condF rfl (Int.lt_irrefl _) ?_
            refine wr_exit rfl ?_
            refine wr_seq ?_
            refine wr_seq ?_
            refine wr_region ?_
            refine wo_val (.ptr (ix ids 1) g1 0 2) rfl (pv_fa (fa_ptr (c := 0) (off := 2) (i := 2) ti31 rfl ti24 rfl)) ?_
            refine wo_val (.sl 3 (List.map rConfig r2.1.Configs)) rfl (pv_load (ld_ptr hI rfl rfl rfl ti24 rfl)) ?_
            refine wo_val (.int .i64 (r2.1.Configs.length : Int)) rfl (pv_len (len_sl ti24)) ?_
            refine wo_val (.int .i64 0) rfl pv_move ?_
            refine wo_nil ?_
            refine wr_block ?_
            refine wr_is [(3, (.ptr (ix ids 1) g1 0 0)), (98, (.sl 3 (List.map rConfig r2.1.Configs))), (99, (.int .i64 (r2.1.Configs.length : Int))), (100, (.int .i64 0))] (.cons rfl (.cons rfl (.cons rfl (.cons rfl .nil)))) ?_
            refine wf_each' r2.1.Configs (fun _ a5 => fun _ => law09_NamesMeans_b4 r r2 a5) ((alt (fun _ => (each (fun _ a9 => fun _ => law09_NamesMeans_b5 r2 a9) 0 r2.1.Segments ()).bind (alt (fun _ => (each (fun _ a11 => fun _ => law09_NamesMeans_b7 r r2 a11) 0 r2.1.Routes ()).bind (alt (fun _ => (each (fun _ a17 => fun _ => law09_NamesMeans_b8 r2 a17) 0 r2.1.Rules ()).bind (alt (fun _ => .ok true) (fun r => .ok r))) (fun r => .ok r))) (fun r => .ok r))) (fun r => .ok r)) : _ → R Bool)
              (fun j2 => fun _ => fun (fr : Nat → AV) (h : AHeap) => fr = frA [(3, (.ptr (ix ids 1) g1 0 0)), (98, (.sl 3 (List.map rConfig r2.1.Configs))), (99, (.int .i64 (r2.1.Configs.length : Int))), (100, (.int .i64 (j2 : Int)))] ∧ h = hp h0 ids [none, (some (.rows g1 8 [(rAirspace r2.1)])), none, none, none, none, none]) () ?_ ?_ ?_
            · exact ⟨rfl, rfl⟩
            · rintro j2 a5 ha5 W hW2 _ fr h ⟨rfl, rfl⟩
              refine wr_mod (m' := law09_NamesMeans_b4 r r2 a5) rfl (wr_mod (law09_NamesMeans_b4.eq_1 _ _ _) ?_)
              refine wr_seq ?_
              refine wr_region ?_
              refine wo_val (.bool (decide ((j2 : Int) < (r2.1.Configs.length : Int)))) rfl (pv_bin rfl rfl rfl) ?_
              refine wo_nil ?_
              refine wr_seq ?_
              refine wr_lim (t := 98) (L := r2.1.Configs) rfl fun hlim2 => ?_
              refine wr_condT rfl (Int.ofNat_lt.2 (lt_of_get ha5)) ?_
              refine wr_skip ?_
              refine wr_seq ?_
              refine wr_block ?_
              refine wr_seq ?_
              refine wr_region ?_
              refine wo_val (.cp (rConfig a5) 0) rfl (pv_ixa (ixa_nat ti24 ti55 rfl ha5)) ?_
              refine wo_val (.agg (rConfig a5)) rfl (pv_load (ld_cp ti55 rfl)) ?_
              refine wo_alloc (j := 3) hI rfl rfl rfl rfl ti55 rfl fun g3 => ?_
              refine wo_store (st_ptr hI rfl rfl rfl rfl ti55 rfl rfl rfl rfl rfl) ?_
              refine wo_nil ?_
              refine wr_hp [none, (some (.rows g1 8 [(rAirspace r2.1)])), none, (some (.rows g3 3 [(rConfig a5)])), none, none, none] rfl ?_
              refine wr_seq ?_
              refine wr_seq ?_
              refine wr_region ?_
              refine wo_val (.ptr (ix ids 3) g3 0 2) rfl (pv_fa (fa_ptr (c := 0) (off := 2) (i := 2) ti55 rfl ti51 rfl)) ?_
              refine wo_val (.sl 1 (List.map (rI .i64) a5.Sectors)) rfl (pv_load (ld_ptr hI rfl rfl rfl ti51 rfl)) ?_
              refine wo_val (.int .i64 (a5.Sectors.length : Int)) rfl (pv_len (len_sl ti51)) ?_
              refine wo_val (.ptr (ix ids 3) g3 0 1) rfl (pv_fa (fa_ptr (c := 0) (off := 1) (i := 1) ti55 rfl ti38 rfl)) ?_
              refine wo_val (.sl 1 (List.map rS a5.Names)) rfl (pv_load (ld_ptr hI rfl rfl rfl ti38 rfl)) ?_
              refine wo_val (.int .i64 (a5.Names.length : Int)) rfl (pv_len (len_sl ti38)) ?_
              refine wo_val (.bool ((a5.Sectors.length : Int) != (a5.Names.length : Int))) rfl (pv_bin rfl rfl rfl) ?_
              refine wo_nil ?_
              refine wf_iteb rfl (fun hc6 => ?_) (fun hc6 => ?_)
              · refine wr_seq ?_
                refine wr_region ?_
                refine wo_val (.bool false) rfl pv_assign ?_
                refine wo_nil ?_
                refine wx_each ?_
                refine w_altr ?_
                exact wr_ret (a := false) (vs := [(.bool false)]) Try.func5 hI rfl (.same _)
              · refine wr_skip ?_
                refine wr_seq ?_
                refine wr_region ?_
                refine wo_val (.ptr (ix ids 3) g3 0 2) rfl (pv_fa (fa_ptr (c := 0) (off := 2) (i := 2) ti55 rfl ti51 rfl)) ?_
                refine wo_val (.sl 1 (List.map (rI .i64) a5.Sectors)) rfl (pv_load (ld_ptr hI rfl rfl rfl ti51 rfl)) ?_
                refine wo_val (.int .i64 (a5.Sectors.length : Int)) rfl (pv_len (len_sl ti51)) ?_
                refine wo_val (.int .i64 0) rfl pv_move ?_
                refine wo_nil ?_
                refine wr_block ?_
                refine wr_is [(3, (.ptr (ix ids 1) g1 0 0)), (10, (.ptr (ix ids 3) g3 0 0)), (98, (.sl 3 (List.map rConfig r2.1.Configs))), (99, (.int .i64 (r2.1.Configs.length : Int))), (100, (.int .i64 (j2 : Int))), (112, (.sl 1 (List.map (rI .i64) a5.Sectors))), (113, (.int .i64 (a5.Sectors.length : Int))), (114, (.int .i64 0))] (.cons rfl (.cons rfl (.cons rfl (.cons rfl (.cons rfl (.cons rfl (.cons rfl (.cons rfl .nil)))))))) ?_
                refine wf_each' a5.Sectors (fun j3 a6 => fun _ => law09_NamesMeans_b3 r2 a5 j3 a6) ((alt (fun _ => .ok (.inl ())) (fun r => .ok (.inr (r)))) : _ → R (Unit ⊕ Bool))
                  (fun j3 => fun _ => fun (fr : Nat → AV) (h : AHeap) => fr = frA [(3, (.ptr (ix ids 1) g1 0 0)), (10, (.ptr (ix ids 3) g3 0 0)), (98, (.sl 3 (List.map rConfig r2.1.Configs))), (99, (.int .i64 (r2.1.Configs.length : Int))), (100, (.int .i64 (j2 : Int))), (112, (.sl 1 (List.map (rI .i64) a5.Sectors))), (113, (.int .i64 (a5.Sectors.length : Int))), (114, (.int .i64 (j3 : Int)))] ∧ h = hp h0 ids [none, (some (.rows g1 8 [(rAirspace r2.1)])), none, (some (.rows g3 3 [(rConfig a5)])), none, none, none]) () ?_ ?_ ?_
                · exact ⟨rfl, rfl⟩
                · rintro j3 a6 ha6 W hW3 _ fr h ⟨rfl, rfl⟩
                  refine wr_mod (m' := law09_NamesMeans_b3 r2 a5 j3 a6) rfl (wr_mod (law09_NamesMeans_b3.eq_1 _ _ _ _) ?_)
                  refine wr_seq ?_
                  refine wr_region ?_
                  refine wo_val (.bool (decide ((j3 : Int) < (a5.Sectors.length : Int)))) rfl (pv_bin rfl rfl rfl) ?_
                  refine wo_nil ?_
                  refine wr_seq ?_
                  refine wr_lim (t := 112) (L := a5.Sectors) rfl fun hlim3 => ?_
                  refine wr_condT rfl (Int.ofNat_lt.2 (lt_of_get ha6)) ?_
                  refine wr_skip ?_
                  refine wr_seq ?_
                  refine wr_block ?_
                  refine wr_seq ?_
                  refine wr_region ?_
                  refine wo_val (.int .i64 (j3 : Int)) rfl pv_move ?_
                  refine wo_val (.cp [(.int .i64 a6)] 0) rfl (pv_ixa (ixa_nat ti51 ti3 rfl ha6)) ?_
                  refine wo_val (.int .i64 a6) rfl (pv_load (ld_cp ti3 rfl)) ?_
                  refine wo_val (.int .i64 (j3 : Int)) rfl pv_assign ?_
                  refine wo_val (.int .i64 a6) rfl pv_assign ?_
                  refine wo_nil ?_
                  refine wr_seq ?_
                  refine wf_join (fun x5 => law09_NamesMeans_j2 x5) (fun x5 => fun (fr : Nat → AV) (h : AHeap) => fr = frA [(3, (.ptr (ix ids 1) g1 0 0)), (10, (.ptr (ix ids 3) g3 0 0)), (98, (.sl 3 (List.map rConfig r2.1.Configs))), (99, (.int .i64 (r2.1.Configs.length : Int))), (100, (.int .i64 (j2 : Int))), (112, (.sl 1 (List.map (rI .i64) a5.Sectors))), (113, (.int .i64 (a5.Sectors.length : Int))), (114, (.int .i64 (j3 : Int))), (141, (.bool x5))] ∧ h = hp h0 ids [none, (some (.rows g1 8 [(rAirspace r2.1)])), none, (some (.rows g3 3 [(rConfig a5)])), none, none, none]) ?_ fun hJ3 => ?_
                  · rintro x5 fr h ⟨rfl, rfl⟩
                    refine wr_mod (law09_NamesMeans_j2.eq_1 _) ?_
                    refine wf_iteb rfl (fun hc7 => ?_) (fun hc7 => ?_)
                    · refine wr_seq ?_
                      refine wr_region ?_
                      refine wo_val (.bool false) rfl pv_assign ?_
                      refine wo_nil ?_
                      refine wx_each ?_
                      refine w_altr ?_
                      refine wx_each ?_
                      refine w_altr ?_
                      exact wr_ret (a := false) (vs := [(.bool false)]) Try.func5 hI rfl (.same _)
                    · refine wr_skip ?_
                      refine wr_inBlock ?_
                      refine wr_region ?_
                      refine wo_val (.int .i64 (IntKind.wrap .i64 ((j3 : Int) + 1))) rfl (pv_bin rfl rfl rfl) ?_
                      refine wo_val (.int .i64 (IntKind.wrap .i64 ((j3 : Int) + 1))) rfl pv_move ?_
                      refine wo_nil ?_
                      refine wr_is [(3, (.ptr (ix ids 1) g1 0 0)), (10, (.ptr (ix ids 3) g3 0 0)), (98, (.sl 3 (List.map rConfig r2.1.Configs))), (99, (.int .i64 (r2.1.Configs.length : Int))), (100, (.int .i64 (j2 : Int))), (112, (.sl 1 (List.map (rI .i64) a5.Sectors))), (113, (.int .i64 (a5.Sectors.length : Int))), (114, (.int .i64 ((j3 + 1 : Nat) : Int)))] (.cons rfl (.cons rfl (.cons rfl (.cons rfl (.cons rfl (.cons rfl (.cons rfl (.cons (inc_ok (lt_of_get ha6) hlim3) .nil)))))))) ?_
                      refine wb_each ?_
                      refine hW3 () _ _ ?_
                      exact ⟨rfl, rfl⟩
                  · refine wr_draw hmix [[], [0], [0, 1], [0, 1, 2], [0, 1, 2], [0, 1, 2, 4], [0, 1, 2, 4, 5], [0, 1, 2, 3, 4, 5, 6], [0, 1, 2, 3, 4, 5, 6, 7], [0, 1, 2, 3, 4, 5, 6, 7, 8], [0, 1, 2, 3, 4, 5, 6, 7, 8, 9], [0, 1, 2, 3, 4, 5, 6, 7, 8, 9, 10], [0, 1, 2, 3, 4, 5, 6, 7, 8, 9], [0, 1, 2, 3, 4, 5, 6, 7, 8, 9, 10, 11, 12], [0, 1, 2, 3, 4, 5, 6, 7, 8, 9, 10, 11, 12, 13], [0, 1, 2, 3, 4, 5, 6, 7, 8, 9, 10, 11, 12, 13, 14], [0, 1, 2, 3, 4, 5, 6, 7, 8, 9], [0, 1, 2, 3, 4, 5, 6, 7, 8, 9, 16], [0, 1, 2, 3, 4, 5, 6, 7, 8, 9], [0, 1, 2, 3, 4, 5, 6, 7, 8, 9, 16, 17, 18], [0, 1, 2, 3, 4, 5, 6, 7, 8, 9, 16, 17, 18, 19], [0, 1, 2, 3, 4, 5, 6, 7, 8, 9, 10, 11, 12, 13, 14, 15, 16, 17, 18, 19, 20], [0, 1, 2, 3, 4, 5, 6, 7, 8, 9, 10, 11, 12, 13, 14, 15, 16, 17, 18, 19, 20, 21]] [(false, 0), (false, 1), (false, 2), (false, 3), (false, 4), (false, 5), (false, 6), (false, 7), (false, 8), (false, 9), (false, 10), (false, 11), (false, 12), (false, 13), (false, 14), (false, 15), (false, 16), (false, 17), (false, 18), (false, 19), (false, 20), (false, 21), (false, 22)] (by kernel_rfl) ?_
                    refine wp_val (.int .i64 a6) rfl rfl pv_move ?_
                    refine wp_val (.bool (decide (a6 < 0))) rfl rfl (pv_bin rfl rfl rfl) ?_
                    refine wp_val (.bool (decide (a6 < 0))) rfl rfl pv_move ?_
                    refine op_iteb (fun hb6 => ?_) (fun hb6 => ?_)
                    · refine wp_not (tj := 121) (b := true) rfl rfl (congrArg AV.bool hb6) rfl rfl ?_
                      refine wp_not (tj := 121) (b := true) rfl rfl (congrArg AV.bool hb6) rfl rfl ?_
                      refine wp_not (tj := 121) (b := true) rfl rfl (congrArg AV.bool hb6) rfl rfl ?_
                      refine wp_not (tj := 121) (b := true) rfl rfl (congrArg AV.bool hb6) rfl rfl ?_
                      refine wp_not (tj := 121) (b := true) rfl rfl (congrArg AV.bool hb6) rfl rfl ?_
                      refine wp_val (.bool true) rfl rfl (pv_pick (t := true) (congrArg AV.bool hb6) rfl) ?_
                      refine wp_val (.bool true) rfl rfl pv_move ?_
                      refine wp_not (tj := 128) (b := true) rfl rfl rfl rfl rfl ?_
                      refine wp_not (tj := 128) (b := true) rfl rfl rfl rfl rfl ?_
                      refine wp_not (tj := 128) (b := true) rfl rfl rfl rfl rfl ?_
                      refine wp_not (tj := 128) (b := true) rfl rfl rfl rfl rfl ?_
                      refine wp_not (tj := 128) (b := true) rfl rfl rfl rfl rfl ?_
                      refine wp_not (tj := 128) (b := true) rfl rfl rfl rfl rfl ?_
                      refine wp_not (tj := 128) (b := true) rfl rfl rfl rfl rfl ?_
                      refine wp_not (tj := 128) (b := true) rfl rfl rfl rfl rfl ?_
                      refine wp_not (tj := 128) (b := true) rfl rfl rfl rfl rfl ?_
                      refine wp_not (tj := 128) (b := true) rfl rfl rfl rfl rfl ?_
                      refine wp_not (tj := 128) (b := true) rfl rfl rfl rfl rfl ?_
                      refine wp_not (tj := 128) (b := true) rfl rfl rfl rfl rfl ?_
                      refine wp_val (.bool true) rfl rfl (pv_pick (t := true) rfl rfl) ?_
                      refine wp_nil ?_
                      refine wr_is [(3, (.ptr (ix ids 1) g1 0 0)), (10, (.ptr (ix ids 3) g3 0 0)), (98, (.sl 3 (List.map rConfig r2.1.Configs))), (99, (.int .i64 (r2.1.Configs.length : Int))), (100, (.int .i64 (j2 : Int))), (112, (.sl 1 (List.map (rI .i64) a5.Sectors))), (113, (.int .i64 (a5.Sectors.length : Int))), (114, (.int .i64 (j3 : Int))), (141, (.bool true))] (.cons rfl (.cons rfl (.cons rfl (.cons rfl (.cons rfl (.cons rfl (.cons rfl (.cons rfl (.cons rfl .nil))))))))) ?_
                      refine hJ3 true _ _ ?_
                      exact ⟨rfl, rfl⟩
                    · refine wp_valg (tj := 121) (.int .i64 a6) rfl rfl (congrArg AV.bool hb6) rfl pv_move ?_
                      refine wp_valg (tj := 121) (.ptr (ix ids 1) g1 0 1) rfl rfl (congrArg AV.bool hb6) rfl (pv_fa (fa_ptr (c := 0) (off := 1) (i := 1) ti31 rfl ti23 rfl)) ?_
                      refine wp_valg (tj := 121) (.sl 5 (List.map rSector r2.1.Sectors)) rfl rfl (congrArg AV.bool hb6) rfl (pv_load (ld_ptr hI rfl rfl rfl ti23 rfl)) ?_
                      refine wp_valg (tj := 121) (.int .i64 (r2.1.Sectors.length : Int)) rfl rfl (congrArg AV.bool hb6) rfl (pv_len (len_sl ti23)) ?_
                      refine wp_valg (tj := 121) (.bool (decide (a6 ≥ (r2.1.Sectors.length : Int)))) rfl rfl (congrArg AV.bool hb6) rfl (pv_bin rfl rfl rfl) ?_
                      refine wp_val (.bool (decide (a6 ≥ (r2.1.Sectors.length : Int)))) rfl rfl (pv_pick (t := false) (congrArg AV.bool hb6) rfl) ?_
                      refine wp_val (.bool (decide (a6 ≥ (r2.1.Sectors.length : Int)))) rfl rfl pv_move ?_
                      refine op_iteb (fun hb7 => ?_) (fun hb7 => ?_)
                      · refine wp_not (tj := 128) (b := true) rfl rfl (congrArg AV.bool hb7) rfl rfl ?_
                        refine wp_not (tj := 128) (b := true) rfl rfl (congrArg AV.bool hb7) rfl rfl ?_
                        refine wp_not (tj := 128) (b := true) rfl rfl (congrArg AV.bool hb7) rfl rfl ?_
                        refine wp_not (tj := 128) (b := true) rfl rfl (congrArg AV.bool hb7) rfl rfl ?_
                        refine wp_not (tj := 128) (b := true) rfl rfl (congrArg AV.bool hb7) rfl rfl ?_
                        refine wp_not (tj := 128) (b := true) rfl rfl (congrArg AV.bool hb7) rfl rfl ?_
                        refine wp_not (tj := 128) (b := true) rfl rfl (congrArg AV.bool hb7) rfl rfl ?_
                        refine wp_not (tj := 128) (b := true) rfl rfl (congrArg AV.bool hb7) rfl rfl ?_
                        refine wp_not (tj := 128) (b := true) rfl rfl (congrArg AV.bool hb7) rfl rfl ?_
                        refine wp_not (tj := 128) (b := true) rfl rfl (congrArg AV.bool hb7) rfl rfl ?_
                        refine wp_not (tj := 128) (b := true) rfl rfl (congrArg AV.bool hb7) rfl rfl ?_
                        refine wp_not (tj := 128) (b := true) rfl rfl (congrArg AV.bool hb7) rfl rfl ?_
                        refine wp_val (.bool true) rfl rfl (pv_pick (t := true) (congrArg AV.bool hb7) rfl) ?_
                        refine wp_nil ?_
                        refine wr_is [(3, (.ptr (ix ids 1) g1 0 0)), (10, (.ptr (ix ids 3) g3 0 0)), (98, (.sl 3 (List.map rConfig r2.1.Configs))), (99, (.int .i64 (r2.1.Configs.length : Int))), (100, (.int .i64 (j2 : Int))), (112, (.sl 1 (List.map (rI .i64) a5.Sectors))), (113, (.int .i64 (a5.Sectors.length : Int))), (114, (.int .i64 (j3 : Int))), (141, (.bool true))] (.cons rfl (.cons rfl (.cons rfl (.cons rfl (.cons rfl (.cons rfl (.cons rfl (.cons rfl (.cons rfl .nil))))))))) ?_
                        refine hJ3 true _ _ ?_
                        exact ⟨rfl, rfl⟩
                      · refine wp_valg (tj := 128) (.ptr (ix ids 1) g1 0 1) rfl rfl (congrArg AV.bool hb7) rfl (pv_fa (fa_ptr (c := 0) (off := 1) (i := 1) ti31 rfl ti23 rfl)) ?_
                        refine wp_valg (tj := 128) (.sl 5 (List.map rSector r2.1.Sectors)) rfl rfl (congrArg AV.bool hb7) rfl (pv_load (ld_ptr hI rfl rfl rfl ti23 rfl)) ?_
                        refine wp_valg (tj := 128) (.int .i64 a6) rfl rfl (congrArg AV.bool hb7) rfl pv_move ?_
                        refine op_idx fun a7 hz2 hx3 => ?_
                        refine wp_valg (tj := 128) (.cp (rSector a7) 0) rfl rfl (congrArg AV.bool hb7) rfl (pv_ixa (ixa_sl ti23 ti53 rfl hz2 hx3)) ?_
                        refine wp_valg (tj := 128) (.cp (rSector a7) 0) rfl rfl (congrArg AV.bool hb7) rfl (pv_fa (fa_cp (c := 0) (off := 0) (i := 0) ti53 rfl ti9 rfl)) ?_
                        refine wp_valg (tj := 128) (.str a7.Name) rfl rfl (congrArg AV.bool hb7) rfl (pv_load (ld_cp ti9 rfl)) ?_
                        refine wp_valg (tj := 128) (.ptr (ix ids 3) g3 0 1) rfl rfl (congrArg AV.bool hb7) rfl (pv_fa (fa_ptr (c := 0) (off := 1) (i := 1) ti55 rfl ti38 rfl)) ?_
                        refine wp_valg (tj := 128) (.sl 1 (List.map rS a5.Names)) rfl rfl (congrArg AV.bool hb7) rfl (pv_load (ld_ptr hI rfl rfl rfl ti38 rfl)) ?_
                        refine wp_valg (tj := 128) (.int .i64 (j3 : Int)) rfl rfl (congrArg AV.bool hb7) rfl pv_move ?_
                        refine op_idx fun a8 hz3 hx4 => ?_
                        refine wp_valg (tj := 128) (.cp [(.str a8)] 0) rfl rfl (congrArg AV.bool hb7) rfl (pv_ixa (ixa_sl ti38 ti9 rfl hz3 hx4)) ?_
                        refine wp_valg (tj := 128) (.str a8) rfl rfl (congrArg AV.bool hb7) rfl (pv_load (ld_cp ti9 rfl)) ?_
                        refine wp_valg (tj := 128) (.bool (!(a7.Name == a8))) rfl rfl (congrArg AV.bool hb7) rfl (pv_bin rfl rfl rfl) ?_
                        refine wp_val (.bool (!(a7.Name == a8))) rfl rfl (pv_pick (t := false) (congrArg AV.bool hb7) rfl) ?_
                        refine wp_nil ?_
                        refine wr_is [(3, (.ptr (ix ids 1) g1 0 0)), (10, (.ptr (ix ids 3) g3 0 0)), (98, (.sl 3 (List.map rConfig r2.1.Configs))), (99, (.int .i64 (r2.1.Configs.length : Int))), (100, (.int .i64 (j2 : Int))), (112, (.sl 1 (List.map (rI .i64) a5.Sectors))), (113, (.int .i64 (a5.Sectors.length : Int))), (114, (.int .i64 (j3 : Int))), (141, (.bool (!(a7.Name == a8))))] (.cons rfl (.cons rfl (.cons rfl (.cons rfl (.cons rfl (.cons rfl (.cons rfl (.cons rfl (.cons rfl .nil))))))))) ?_
                        refine hJ3 (!(a7.Name == a8)) _ _ ?_
                        exact ⟨rfl, rfl⟩
                · rintro _ fr h ⟨rfl, rfl⟩
                  refine wr_mod (alt_inl _ _ _) ?_
                  refine wr_seq ?_
                  refine wr_region ?_
                  refine wo_val (.bool (decide ((a5.Sectors.length : Int) < (a5.Sectors.length : Int)))) rfl (pv_bin rfl rfl rfl) ?_
                  refine wo_nil ?_
                  refine wr_seq ?_
                  refine wr_condF rfl (Int.lt_irrefl _) ?_
                  refine wr_exit rfl ?_
                  refine wr_inBlock ?_
                  refine wr_region ?_
                  refine wo_val (.int .i64 (IntKind.wrap .i64 ((j2 : Int) + 1))) rfl (pv_bin rfl rfl rfl) ?_
                  refine wo_val (.int .i64 (IntKind.wrap .i64 ((j2 : Int) + 1))) rfl pv_move ?_
                  refine wo_nil ?_
                  refine wr_drop [none, (some (.rows g1 8 [(rAirspace r2.1)])), none, none, none, none, none] hI rfl (.keep (.keep (.keep (.drop (.keep (.keep (.keep .nil))))))) ?_
                  refine wr_is [(3, (.ptr (ix ids 1) g1 0 0)), (98, (.sl 3 (List.map rConfig r2.1.Configs))), (99, (.int .i64 (r2.1.Configs.length : Int))), (100, (.int .i64 ((j2 + 1 : Nat) : Int)))] (.cons rfl (.cons rfl (.cons rfl (.cons (inc_ok (lt_of_get ha5) hlim2) .nil)))) ?_
                  refine wb_each ?_
                  refine hW2 () _ _ ?_
                  exact ⟨rfl, rfl⟩
            · rintro _ fr h ⟨rfl, rfl⟩
              refine wr_mod (alt_inl _ _ _) ?_
              refine wr_seq ?_
              refine wr_region ?_
              refine wo_val (.bool (decide ((r2.1.Configs.length : Int) < (r2.1.Configs.length : Int)))) rfl (pv_bin rfl rfl rfl) ?_
              refine wo_nil ?_
              refine wr_seq ?_
              refine wr_condF rfl (Int.lt_irrefl _) ?_
              refine wr_exit rfl ?_
              refine wr_seq ?_
              refine wr_seq ?_
              refine wr_region ?_
              refine wo_val (.ptr (ix ids 1) g1 0 3) rfl (pv_fa (fa_ptr (c := 0) (off := 3) (i := 3) ti31 rfl ti25 rfl)) ?_
              refine wo_val (.sl 5 (List.map rSegment r2.1.Segments)) rfl (pv_load (ld_ptr hI rfl rfl rfl ti25 rfl)) ?_
              refine wo_val (.int .i64 (r2.1.Segments.length : Int)) rfl (pv_len (len_sl ti25)) ?_
              refine wo_val (.int .i64 0) rfl pv_move ?_
              refine wo_nil ?_
              refine wr_block ?_
              refine wr_is [(3, (.ptr (ix ids 1) g1 0 0)), (145, (.sl 5 (List.map rSegment r2.1.Segments))), (146, (.int .i64 (r2.1.Segments.length : Int))), (147, (.int .i64 0))] (.cons rfl (.cons rfl (.cons rfl (.cons rfl .nil)))) ?_
              refine wf_each' r2.1.Segments (fun _ a9 => fun _ => law09_NamesMeans_b5 r2 a9) ((alt (fun _ => (each (fun _ a11 => fun _ => law09_NamesMeans_b7 r r2 a11) 0 r2.1.Routes ()).bind (alt (fun _ => (each (fun _ a17 => fun _ => law09_NamesMeans_b8 r2 a17) 0 r2.1.Rules ()).bind (alt (fun _ => .ok true) (fun r => .ok r))) (fun r => .ok r))) (fun r => .ok r)) : _ → R Bool)
                (fun j4 => fun _ => fun (fr : Nat → AV) (h : AHeap) => fr = frA [(3, (.ptr (ix ids 1) g1 0 0)), (145, (.sl 5 (List.map rSegment r2.1.Segments))), (146, (.int .i64 (r2.1.Segments.length : Int))), (147, (.int .i64 (j4 : Int)))] ∧ h = hp h0 ids [none, (some (.rows g1 8 [(rAirspace r2.1)])), none, none, none, none, none]) () ?_ ?_ ?_
              · exact ⟨rfl, rfl⟩
              · rintro j4 a9 ha9 W hW4 _ fr h ⟨rfl, rfl⟩
                refine wr_mod (m' := law09_NamesMeans_b5 r2 a9) rfl (wr_mod (law09_NamesMeans_b5.eq_1 _ _) ?_)
                refine wr_seq ?_
                refine wr_region ?_
                refine wo_val (.bool (decide ((j4 : Int) < (r2.1.Segments.length : Int)))) rfl (pv_bin rfl rfl rfl) ?_
                refine wo_nil ?_
                refine wr_seq ?_
                refine wr_lim (t := 145) (L := r2.1.Segments) rfl fun hlim4 => ?_
                refine wr_condT rfl (Int.ofNat_lt.2 (lt_of_get ha9)) ?_
                refine wr_skip ?_
                refine wr_seq ?_
                refine wr_block ?_
                refine wr_seq ?_
                refine wr_region ?_
                refine wo_val (.cp (rSegment a9) 0) rfl (pv_ixa (ixa_nat ti25 ti57 rfl ha9)) ?_
                refine wo_val (.agg (rSegment a9)) rfl (pv_load (ld_cp ti57 rfl)) ?_
                refine wo_alloc (j := 4) hI rfl rfl rfl rfl ti57 rfl fun g4 => ?_
                refine wo_store (st_ptr hI rfl rfl rfl rfl ti57 rfl rfl rfl rfl rfl) ?_
                refine wo_nil ?_
                refine wr_hp [none, (some (.rows g1 8 [(rAirspace r2.1)])), none, none, (some (.rows g4 5 [(rSegment a9)])), none, none] rfl ?_
                refine wr_seq ?_
                refine wf_join (fun x7 => law09_NamesMeans_j3 x7) (fun x7 => fun (fr : Nat → AV) (h : AHeap) => fr = frA [(3, (.ptr (ix ids 1) g1 0 0)), (145, (.sl 5 (List.map rSegment r2.1.Segments))), (146, (.int .i64 (r2.1.Segments.length : Int))), (147, (.int .i64 (j4 : Int))), (173, (.bool x7))] ∧ h = hp h0 ids [none, (some (.rows g1 8 [(rAirspace r2.1)])), none, none, none, none, none]) ?_ fun hJ4 => ?_
                · rintro x7 fr h ⟨rfl, rfl⟩
                  refine wr_mod (law09_NamesMeans_j3.eq_1 _) ?_
                  refine wf_iteb rfl (fun hc8 => ?_) (fun hc8 => ?_)
                  · refine wr_seq ?_
                    refine wr_region ?_
                    refine wo_val (.bool false) rfl pv_assign ?_
                    refine wo_nil ?_
                    refine wx_each ?_
                    refine w_altr ?_
                    exact wr_ret (a := false) (vs := [(.bool false)]) Try.func5 hI rfl (.same _)
                  · refine wr_skip ?_
                    refine wr_inBlock ?_
                    refine wr_region ?_
                    refine wo_val (.int .i64 (IntKind.wrap .i64 ((j4 : Int) + 1))) rfl (pv_bin rfl rfl rfl) ?_
                    refine wo_val (.int .i64 (IntKind.wrap .i64 ((j4 : Int) + 1))) rfl pv_move ?_
                    refine wo_nil ?_
                    refine wr_is [(3, (.ptr (ix ids 1) g1 0 0)), (145, (.sl 5 (List.map rSegment r2.1.Segments))), (146, (.int .i64 (r2.1.Segments.length : Int))), (147, (.int .i64 ((j4 + 1 : Nat) : Int)))] (.cons rfl (.cons rfl (.cons rfl (.cons (inc_ok (lt_of_get ha9) hlim4) .nil)))) ?_
                    refine wb_each ?_
                    refine hW4 () _ _ ?_
                    exact ⟨rfl, rfl⟩
                · refine wr_draw hmix [[], [0], [0, 1], [0, 1, 2], [0, 1, 2, 3], [0, 1, 2, 3, 4], [0, 1, 2, 3], [0, 1, 2, 3, 6], [0, 1, 2, 3, 6, 7], [0, 1, 2, 3, 4, 5, 6, 7, 8], [0, 1, 2, 3, 4, 5, 6, 7, 8, 9], [0, 1, 2, 3, 4, 5, 6, 7, 8, 9, 10], [0, 1, 2, 3, 4, 5, 6, 7, 8, 9, 10, 11], [0, 1, 2, 3, 4, 5, 6, 7, 8, 9, 10, 11, 12], [0, 1, 2, 3, 4, 5, 6, 7, 8, 9, 10, 11], [0, 1, 2, 3, 4, 5, 6, 7, 8, 9, 10, 11, 14], [0, 1, 2, 3, 4, 5, 6, 7, 8, 9, 10, 11, 12, 13, 14, 15], [0, 1, 2, 3, 4, 5, 6, 7, 8, 9, 10, 11, 12, 13, 14, 15, 16], [0, 1, 2, 3, 4, 5, 6, 7, 8, 9, 10, 11, 12, 13, 14, 15, 16, 17], [0, 1, 2, 3, 4, 5, 6, 7, 8, 9, 10, 11], [0, 1, 2, 3, 4, 5, 6, 7, 8, 9, 10, 11, 19], [0, 1, 2, 3, 4, 5, 6, 7, 8, 9, 10, 11, 12, 13, 14, 15, 16, 17, 18, 19, 20], [0, 1, 2, 3, 4, 5, 6, 7, 8, 9, 10, 11, 12, 13, 14, 15, 16, 17, 18, 19, 20, 21]] [(false, 0), (false, 1), (false, 2), (false, 3), (false, 4), (false, 5), (false, 6), (false, 7), (false, 8), (false, 9), (false, 10), (false, 11), (false, 12), (false, 13), (false, 14), (false, 15), (false, 16), (false, 17), (false, 18), (false, 19), (false, 20), (false, 21), (false, 22)] (by kernel_rfl) ?_
                  refine wp_val (.ptr (ix ids 4) g4 0 2) rfl rfl (pv_fa (fa_ptr (c := 0) (off := 2) (i := 2) ti57 rfl ti3 rfl)) ?_
                  refine wp_val (.int .i64 a9.Volume) rfl rfl (pv_load (ld_ptr hI rfl rfl rfl ti3 rfl)) ?_
                  refine wp_val (.bool (decide (a9.Volume < 0))) rfl rfl (pv_bin rfl rfl rfl) ?_
                  refine wp_val (.bool (decide (a9.Volume < 0))) rfl rfl pv_move ?_
                  refine op_iteb (fun hb8 => ?_) (fun hb8 => ?_)
                  · refine wp_not (tj := 154) (b := true) rfl rfl (congrArg AV.bool hb8) rfl rfl ?_
                    refine wp_not (tj := 154) (b := true) rfl rfl (congrArg AV.bool hb8) rfl rfl ?_
                    refine wp_not (tj := 154) (b := true) rfl rfl (congrArg AV.bool hb8) rfl rfl ?_
                    refine wp_not (tj := 154) (b := true) rfl rfl (congrArg AV.bool hb8) rfl rfl ?_
                    refine wp_not (tj := 154) (b := true) rfl rfl (congrArg AV.bool hb8) rfl rfl ?_
                    refine wp_not (tj := 154) (b := true) rfl rfl (congrArg AV.bool hb8) rfl rfl ?_
                    refine wp_val (.bool true) rfl rfl (pv_pick (t := true) (congrArg AV.bool hb8) rfl) ?_
                    refine wp_val (.bool true) rfl rfl pv_move ?_
                    refine wp_not (tj := 162) (b := true) rfl rfl rfl rfl rfl ?_
                    refine wp_not (tj := 162) (b := true) rfl rfl rfl rfl rfl ?_
                    refine wp_not (tj := 162) (b := true) rfl rfl rfl rfl rfl ?_
                    refine wp_not (tj := 162) (b := true) rfl rfl rfl rfl rfl ?_
                    refine wp_not (tj := 162) (b := true) rfl rfl rfl rfl rfl ?_
                    refine wp_not (tj := 162) (b := true) rfl rfl rfl rfl rfl ?_
                    refine wp_not (tj := 162) (b := true) rfl rfl rfl rfl rfl ?_
                    refine wp_not (tj := 162) (b := true) rfl rfl rfl rfl rfl ?_
                    refine wp_not (tj := 162) (b := true) rfl rfl rfl rfl rfl ?_
                    refine wp_not (tj := 162) (b := true) rfl rfl rfl rfl rfl ?_
                    refine wp_val (.bool true) rfl rfl (pv_pick (t := true) rfl rfl) ?_
                    refine wp_nil ?_
                    refine wr_drop [none, (some (.rows g1 8 [(rAirspace r2.1)])), none, none, none, none, none] hI rfl (.keep (.keep (.keep (.keep (.drop (.keep (.keep .nil))))))) ?_
                    refine wr_is [(3, (.ptr (ix ids 1) g1 0 0)), (145, (.sl 5 (List.map rSegment r2.1.Segments))), (146, (.int .i64 (r2.1.Segments.length : Int))), (147, (.int .i64 (j4 : Int))), (173, (.bool true))] (.cons rfl (.cons rfl (.cons rfl (.cons rfl (.cons rfl .nil))))) ?_
                    refine hJ4 true _ _ ?_
                    exact ⟨rfl, rfl⟩
                  · refine wp_valg (tj := 154) (.ptr (ix ids 4) g4 0 2) rfl rfl (congrArg AV.bool hb8) rfl (pv_fa (fa_ptr (c := 0) (off := 2) (i := 2) ti57 rfl ti3 rfl)) ?_
                    refine wp_valg (tj := 154) (.int .i64 a9.Volume) rfl rfl (congrArg AV.bool hb8) rfl (pv_load (ld_ptr hI rfl rfl rfl ti3 rfl)) ?_
                    refine wp_valg (tj := 154) (.ptr (ix ids 1) g1 0 0) rfl rfl (congrArg AV.bool hb8) rfl (pv_fa (fa_ptr (c := 0) (off := 0) (i := 0) ti31 rfl ti22 rfl)) ?_
                    refine wp_valg (tj := 154) (.sl 2 (List.map rVolume r2.1.Volumes)) rfl rfl (congrArg AV.bool hb8) rfl (pv_load (ld_ptr hI rfl rfl rfl ti22 rfl)) ?_
                    refine wp_valg (tj := 154) (.int .i64 (r2.1.Volumes.length : Int)) rfl rfl (congrArg AV.bool hb8) rfl (pv_len (len_sl ti22)) ?_
                    refine wp_valg (tj := 154) (.bool (decide (a9.Volume ≥ (r2.1.Volumes.length : Int)))) rfl rfl (congrArg AV.bool hb8) rfl (pv_bin rfl rfl rfl) ?_
                    refine wp_val (.bool (decide (a9.Volume ≥ (r2.1.Volumes.length : Int)))) rfl rfl (pv_pick (t := false) (congrArg AV.bool hb8) rfl) ?_
                    refine wp_val (.bool (decide (a9.Volume ≥ (r2.1.Volumes.length : Int)))) rfl rfl pv_move ?_
                    refine op_iteb (fun hb9 => ?_) (fun hb9 => ?_)
                    · refine wp_not (tj := 162) (b := true) rfl rfl (congrArg AV.bool hb9) rfl rfl ?_
                      refine wp_not (tj := 162) (b := true) rfl rfl (congrArg AV.bool hb9) rfl rfl ?_
                      refine wp_not (tj := 162) (b := true) rfl rfl (congrArg AV.bool hb9) rfl rfl ?_
                      refine wp_not (tj := 162) (b := true) rfl rfl (congrArg AV.bool hb9) rfl rfl ?_
                      refine wp_not (tj := 162) (b := true) rfl rfl (congrArg AV.bool hb9) rfl rfl ?_
                      refine wp_not (tj := 162) (b := true) rfl rfl (congrArg AV.bool hb9) rfl rfl ?_
                      refine wp_not (tj := 162) (b := true) rfl rfl (congrArg AV.bool hb9) rfl rfl ?_
                      refine wp_not (tj := 162) (b := true) rfl rfl (congrArg AV.bool hb9) rfl rfl ?_
                      refine wp_not (tj := 162) (b := true) rfl rfl (congrArg AV.bool hb9) rfl rfl ?_
                      refine wp_not (tj := 162) (b := true) rfl rfl (congrArg AV.bool hb9) rfl rfl ?_
                      refine wp_val (.bool true) rfl rfl (pv_pick (t := true) (congrArg AV.bool hb9) rfl) ?_
                      refine wp_nil ?_
                      refine wr_drop [none, (some (.rows g1 8 [(rAirspace r2.1)])), none, none, none, none, none] hI rfl (.keep (.keep (.keep (.keep (.drop (.keep (.keep .nil))))))) ?_
                      refine wr_is [(3, (.ptr (ix ids 1) g1 0 0)), (145, (.sl 5 (List.map rSegment r2.1.Segments))), (146, (.int .i64 (r2.1.Segments.length : Int))), (147, (.int .i64 (j4 : Int))), (173, (.bool true))] (.cons rfl (.cons rfl (.cons rfl (.cons rfl (.cons rfl .nil))))) ?_
                      refine hJ4 true _ _ ?_
                      exact ⟨rfl, rfl⟩
                    · refine wp_valg (tj := 162) (.ptr (ix ids 1) g1 0 0) rfl rfl (congrArg AV.bool hb9) rfl (pv_fa (fa_ptr (c := 0) (off := 0) (i := 0) ti31 rfl ti22 rfl)) ?_
                      refine wp_valg (tj := 162) (.sl 2 (List.map rVolume r2.1.Volumes)) rfl rfl (congrArg AV.bool hb9) rfl (pv_load (ld_ptr hI rfl rfl rfl ti22 rfl)) ?_
                      refine wp_valg (tj := 162) (.ptr (ix ids 4) g4 0 2) rfl rfl (congrArg AV.bool hb9) rfl (pv_fa (fa_ptr (c := 0) (off := 2) (i := 2) ti57 rfl ti3 rfl)) ?_
                      refine wp_valg (tj := 162) (.int .i64 a9.Volume) rfl rfl (congrArg AV.bool hb9) rfl (pv_load (ld_ptr hI rfl rfl rfl ti3 rfl)) ?_
                      refine op_idx fun a10 hz4 hx5 => ?_
                      refine wp_valg (tj := 162) (.cp (rVolume a10) 0) rfl rfl (congrArg AV.bool hb9) rfl (pv_ixa (ixa_sl ti22 ti41 rfl hz4 hx5)) ?_
                      refine wp_valg (tj := 162) (.cp (rVolume a10) 0) rfl rfl (congrArg AV.bool hb9) rfl (pv_fa (fa_cp (c := 0) (off := 0) (i := 0) ti41 rfl ti9 rfl)) ?_
                      refine wp_valg (tj := 162) (.str a10.Name) rfl rfl (congrArg AV.bool hb9) rfl (pv_load (ld_cp ti9 rfl)) ?_
                      refine wp_valg (tj := 162) (.ptr (ix ids 4) g4 0 1) rfl rfl (congrArg AV.bool hb9) rfl (pv_fa (fa_ptr (c := 0) (off := 1) (i := 1) ti57 rfl ti9 rfl)) ?_
                      refine wp_valg (tj := 162) (.str a9.In) rfl rfl (congrArg AV.bool hb9) rfl (pv_load (ld_ptr hI rfl rfl rfl ti9 rfl)) ?_
                      refine wp_valg (tj := 162) (.bool (!(a10.Name == a9.In))) rfl rfl (congrArg AV.bool hb9) rfl (pv_bin rfl rfl rfl) ?_
                      refine wp_val (.bool (!(a10.Name == a9.In))) rfl rfl (pv_pick (t := false) (congrArg AV.bool hb9) rfl) ?_
                      refine wp_nil ?_
                      refine wr_drop [none, (some (.rows g1 8 [(rAirspace r2.1)])), none, none, none, none, none] hI rfl (.keep (.keep (.keep (.keep (.drop (.keep (.keep .nil))))))) ?_
                      refine wr_is [(3, (.ptr (ix ids 1) g1 0 0)), (145, (.sl 5 (List.map rSegment r2.1.Segments))), (146, (.int .i64 (r2.1.Segments.length : Int))), (147, (.int .i64 (j4 : Int))), (173, (.bool (!(a10.Name == a9.In))))] (.cons rfl (.cons rfl (.cons rfl (.cons rfl (.cons rfl .nil))))) ?_
                      refine hJ4 (!(a10.Name == a9.In)) _ _ ?_
                      exact ⟨rfl, rfl⟩
              · rintro _ fr h ⟨rfl, rfl⟩
                refine wr_mod (alt_inl _ _ _) ?_
                refine wr_seq ?_
                refine wr_region ?_
                refine wo_val (.bool (decide ((r2.1.Segments.length : Int) < (r2.1.Segments.length : Int)))) rfl (pv_bin rfl rfl rfl) ?_
                refine wo_nil ?_
                refine wr_seq ?_
                refine wr_condF rfl (Int.lt_irrefl _) ?_
                refine wr_exit rfl ?_
                refine wr_seq ?_
                refine wr_seq ?_
                refine wr_region ?_
                refine wo_val (.ptr (ix ids 1) g1 0 4) rfl (pv_fa (fa_ptr (c := 0) (off := 4) (i := 4) ti31 rfl ti26 rfl)) ?_
                refine wo_val (.sl 7 (List.map rRoute r2.1.Routes)) rfl (pv_load (ld_ptr hI rfl rfl rfl ti26 rfl)) ?_
                refine wo_val (.int .i64 (r2.1.Routes.length : Int)) rfl (pv_len (len_sl ti26)) ?_
                refine wo_val (.int .i64 0) rfl pv_move ?_
                refine wo_nil ?_
                refine wr_block ?_
                refine wr_is [(3, (.ptr (ix ids 1) g1 0 0)), (176, (.sl 7 (List.map rRoute r2.1.Routes))), (177, (.int .i64 (r2.1.Routes.length : Int))), (178, (.int .i64 0))] (.cons rfl (.cons rfl (.cons rfl (.cons rfl .nil)))) ?_
                refine wf_each' r2.1.Routes (fun _ a11 => fun _ => law09_NamesMeans_b7 r r2 a11) ((alt (fun _ => (each (fun _ a17 => fun _ => law09_NamesMeans_b8 r2 a17) 0 r2.1.Rules ()).bind (alt (fun _ => .ok true) (fun r => .ok r))) (fun r => .ok r)) : _ → R Bool)
                  (fun j5 => fun _ => fun (fr : Nat → AV) (h : AHeap) => fr = frA [(3, (.ptr (ix ids 1) g1 0 0)), (176, (.sl 7 (List.map rRoute r2.1.Routes))), (177, (.int .i64 (r2.1.Routes.length : Int))), (178, (.int .i64 (j5 : Int)))] ∧ h = hp h0 ids [none, (some (.rows g1 8 [(rAirspace r2.1)])), none, none, none, none, none]) () ?_ ?_ ?_
                · exact ⟨rfl, rfl⟩
                · rintro j5 a11 ha11 W hW5 _ fr h ⟨rfl, rfl⟩
                  refine wr_mod (m' := law09_NamesMeans_b7 r r2 a11) rfl (wr_mod (law09_NamesMeans_b7.eq_1 _ _ _) ?_)
                  refine wr_seq ?_
                  refine wr_region ?_
                  refine wo_val (.bool (decide ((j5 : Int) < (r2.1.Routes.length : Int)))) rfl (pv_bin rfl rfl rfl) ?_
                  refine wo_nil ?_
                  refine wr_seq ?_
                  refine wr_lim (t := 176) (L := r2.1.Routes) rfl fun hlim5 => ?_
                  refine wr_condT rfl (Int.ofNat_lt.2 (lt_of_get ha11)) ?_
                  refine wr_skip ?_
                  refine wr_seq ?_
                  refine wr_block ?_
                  refine wr_seq ?_
                  refine wr_region ?_
                  refine wo_val (.cp (rRoute a11) 0) rfl (pv_ixa (ixa_nat ti26 ti59 rfl ha11)) ?_
                  refine wo_val (.agg (rRoute a11)) rfl (pv_load (ld_cp ti59 rfl)) ?_
                  refine wo_alloc (j := 5) hI rfl rfl rfl rfl ti59 rfl fun g5 => ?_
                  refine wo_store (st_ptr hI rfl rfl rfl rfl ti59 rfl rfl rfl rfl rfl) ?_
                  refine wo_nil ?_
                  refine wr_hp [none, (some (.rows g1 8 [(rAirspace r2.1)])), none, none, none, (some (.rows g5 7 [(rRoute a11)])), none] rfl ?_
                  refine wr_seq ?_
                  refine wr_seq ?_
                  refine wf_join (fun x9 => law09_NamesMeans_j5 r r2 a11 x9) (fun x9 => fun (fr : Nat → AV) (h : AHeap) => fr = frA [(3, (.ptr (ix ids 1) g1 0 0)), (16, (.ptr (ix ids 5) g5 0 0)), (176, (.sl 7 (List.map rRoute r2.1.Routes))), (177, (.int .i64 (r2.1.Routes.length : Int))), (178, (.int .i64 (j5 : Int))), (238, (.bool x9))] ∧ h = hp h0 ids [none, (some (.rows g1 8 [(rAirspace r2.1)])), none, none, none, (some (.rows g5 7 [(rRoute a11)])), none]) ?_ fun hJ6 => ?_
                  · rintro x9 fr h ⟨rfl, rfl⟩
                    refine wr_mod (law09_NamesMeans_j5.eq_1 _ _ _ _) ?_
                    refine wf_iteb rfl (fun hc9 => ?_) (fun hc9 => ?_)
                    · refine wr_seq ?_
                      refine wr_region ?_
                      refine wo_val (.bool false) rfl pv_assign ?_
                      refine wo_nil ?_
                      refine wx_each ?_
                      refine w_altr ?_
                      exact wr_ret (a := false) (vs := [(.bool false)]) Try.func5 hI rfl (.same _)
                    · refine wr_skip ?_
                      refine wr_seq ?_
                      refine wr_region ?_
                      refine wo_val (.ptr (ix ids 5) g5 0 6) rfl (pv_fa (fa_ptr (c := 0) (off := 6) (i := 6) ti59 rfl ti51 rfl)) ?_
                      refine wo_val (.sl 1 (List.map (rI .i64) a11.Segments)) rfl (pv_load (ld_ptr hI rfl rfl rfl ti51 rfl)) ?_
                      refine wo_val (.int .i64 (a11.Segments.length : Int)) rfl (pv_len (len_sl ti51)) ?_
                      refine wo_val (.int .i64 0) rfl pv_move ?_
                      refine wo_nil ?_
                      refine wr_block ?_
                      refine wr_is [(3, (.ptr (ix ids 1) g1 0 0)), (16, (.ptr (ix ids 5) g5 0 0)), (176, (.sl 7 (List.map rRoute r2.1.Routes))), (177, (.int .i64 (r2.1.Routes.length : Int))), (178, (.int .i64 (j5 : Int))), (240, (.sl 1 (List.map (rI .i64) a11.Segments))), (241, (.int .i64 (a11.Segments.length : Int))), (242, (.int .i64 0))] (.cons rfl (.cons rfl (.cons rfl (.cons rfl (.cons rfl (.cons rfl (.cons rfl (.cons rfl .nil)))))))) ?_
                      refine wf_each' a11.Segments (fun j6 a14 => fun _ => law09_NamesMeans_b6 r2 a11 j6 a14) ((alt (fun _ => .ok (.inl ())) (fun r => .ok (.inr (r)))) : _ → R (Unit ⊕ Bool))
                        (fun j6 => fun _ => fun (fr : Nat → AV) (h : AHeap) => fr = frA [(3, (.ptr (ix ids 1) g1 0 0)), (16, (.ptr (ix ids 5) g5 0 0)), (176, (.sl 7 (List.map rRoute r2.1.Routes))), (177, (.int .i64 (r2.1.Routes.length : Int))), (178, (.int .i64 (j5 : Int))), (240, (.sl 1 (List.map (rI .i64) a11.Segments))), (241, (.int .i64 (a11.Segments.length : Int))), (242, (.int .i64 (j6 : Int)))] ∧ h = hp h0 ids [none, (some (.rows g1 8 [(rAirspace r2.1)])), none, none, none, (some (.rows g5 7 [(rRoute a11)])), none]) () ?_ ?_ ?_
                      · exact ⟨rfl, rfl⟩
                      · rintro j6 a14 ha14 W hW6 _ fr h ⟨rfl, rfl⟩
                        refine wr_mod (m' := law09_NamesMeans_b6 r2 a11 j6 a14) rfl (wr_mod (law09_NamesMeans_b6.eq_1 _ _ _ _) ?_)
                        refine wr_seq ?_
                        refine wr_region ?_
                        refine wo_val (.bool (decide ((j6 : Int) < (a11.Segments.length : Int)))) rfl (pv_bin rfl rfl rfl) ?_
                        refine wo_nil ?_
                        refine wr_seq ?_
                        refine wr_lim (t := 240) (L := a11.Segments) rfl fun hlim6 => ?_
                        refine wr_condT rfl (Int.ofNat_lt.2 (lt_of_get ha14)) ?_
                        refine wr_skip ?_
                        refine wr_seq ?_
                        refine wr_block ?_
                        refine wr_seq ?_
                        refine wr_region ?_
                        refine wo_val (.int .i64 (j6 : Int)) rfl pv_move ?_
                        refine wo_val (.cp [(.int .i64 a14)] 0) rfl (pv_ixa (ixa_nat ti51 ti3 rfl ha14)) ?_
                        refine wo_val (.int .i64 a14) rfl (pv_load (ld_cp ti3 rfl)) ?_
                        refine wo_val (.int .i64 (j6 : Int)) rfl pv_assign ?_
                        refine wo_val (.int .i64 a14) rfl pv_assign ?_
                        refine wo_nil ?_
                        refine wr_seq ?_
                        refine wf_join (fun x11 => law09_NamesMeans_j4 x11) (fun x11 => fun (fr : Nat → AV) (h : AHeap) => fr = frA [(3, (.ptr (ix ids 1) g1 0 0)), (16, (.ptr (ix ids 5) g5 0 0)), (176, (.sl 7 (List.map rRoute r2.1.Routes))), (177, (.int .i64 (r2.1.Routes.length : Int))), (178, (.int .i64 (j5 : Int))), (240, (.sl 1 (List.map (rI .i64) a11.Segments))), (241, (.int .i64 (a11.Segments.length : Int))), (242, (.int .i64 (j6 : Int))), (269, (.bool x11))] ∧ h = hp h0 ids [none, (some (.rows g1 8 [(rAirspace r2.1)])), none, none, none, (some (.rows g5 7 [(rRoute a11)])), none]) ?_ fun hJ5 => ?_
                        · rintro x11 fr h ⟨rfl, rfl⟩
                          refine wr_mod (law09_NamesMeans_j4.eq_1 _) ?_
                          refine wf_iteb rfl (fun hc10 => ?_) (fun hc10 => ?_)
                          · refine wr_seq ?_
                            refine wr_region ?_
                            refine wo_val (.bool false) rfl pv_assign ?_
                            refine wo_nil ?_
                            refine wx_each ?_
                            refine w_altr ?_
                            refine wx_each ?_
                            refine w_altr ?_
                            exact wr_ret (a := false) (vs := [(.bool false)]) Try.func5 hI rfl (.same _)
                          · refine wr_skip ?_
                            refine wr_inBlock ?_
                            refine wr_region ?_
                            refine wo_val (.int .i64 (IntKind.wrap .i64 ((j6 : Int) + 1))) rfl (pv_bin rfl rfl rfl) ?_
                            refine wo_val (.int .i64 (IntKind.wrap .i64 ((j6 : Int) + 1))) rfl pv_move ?_
                            refine wo_nil ?_
                            refine wr_is [(3, (.ptr (ix ids 1) g1 0 0)), (16, (.ptr (ix ids 5) g5 0 0)), (176, (.sl 7 (List.map rRoute r2.1.Routes))), (177, (.int .i64 (r2.1.Routes.length : Int))), (178, (.int .i64 (j5 : Int))), (240, (.sl 1 (List.map (rI .i64) a11.Segments))), (241, (.int .i64 (a11.Segments.length : Int))), (242, (.int .i64 ((j6 + 1 : Nat) : Int)))] (.cons rfl (.cons rfl (.cons rfl (.cons rfl (.cons rfl (.cons rfl (.cons rfl (.cons (inc_ok (lt_of_get ha14) hlim6) .nil)))))))) ?_
                            refine wb_each ?_
                            refine hW6 () _ _ ?_
                            exact ⟨rfl, rfl⟩
                        · refine wr_draw hmix [[], [0], [0, 1], [0, 1, 2], [0, 1, 2], [0, 1, 2, 4], [0, 1, 2, 4, 5], [0, 1, 2, 3, 4, 5, 6], [0, 1, 2, 3, 4, 5, 6, 7], [0, 1, 2, 3, 4, 5, 6, 7, 8], [0, 1, 2, 3, 4, 5, 6, 7, 8, 9], [0, 1, 2, 3, 4, 5, 6, 7, 8, 9, 10], [0, 1, 2, 3, 4, 5, 6, 7, 8, 9], [0, 1, 2, 3, 4, 5, 6, 7, 8, 9, 10, 11, 12], [0, 1, 2, 3, 4, 5, 6, 7, 8, 9, 10, 11, 12, 13], [0, 1, 2, 3, 4, 5, 6, 7, 8, 9, 10, 11, 12, 13, 14], [0, 1, 2, 3, 4, 5, 6, 7, 8, 9], [0, 1, 2, 3, 4, 5, 6, 7, 8, 9, 16], [0, 1, 2, 3, 4, 5, 6, 7, 8, 9], [0, 1, 2, 3, 4, 5, 6, 7, 8, 9, 16, 17, 18], [0, 1, 2, 3, 4, 5, 6, 7, 8, 9, 16, 17, 18, 19], [0, 1, 2, 3, 4, 5, 6, 7, 8, 9, 10, 11, 12, 13, 14, 15, 16, 17, 18, 19, 20], [0, 1, 2, 3, 4, 5, 6, 7, 8, 9, 10, 11, 12, 13, 14, 15, 16, 17, 18, 19, 20, 21]] [(false, 0), (false, 1), (false, 2), (false, 3), (false, 4), (false, 5), (false, 6), (false, 7), (false, 8), (false, 9), (false, 10), (false, 11), (false, 12), (false, 13), (false, 14), (false, 15), (false, 16), (false, 17), (false, 18), (false, 19), (false, 20), (false, 21), (false, 22)] (by kernel_rfl) ?_
                          refine wp_val (.int .i64 a14) rfl rfl pv_move ?_
                          refine wp_val (.bool (decide (a14 < 0))) rfl rfl (pv_bin rfl rfl rfl) ?_
                          refine wp_val (.bool (decide (a14 < 0))) rfl rfl pv_move ?_
                          refine op_iteb (fun hb16 => ?_) (fun hb16 => ?_)
                          · refine wp_not (tj := 249) (b := true) rfl rfl (congrArg AV.bool hb16) rfl rfl ?_
                            refine wp_not (tj := 249) (b := true) rfl rfl (congrArg AV.bool hb16) rfl rfl ?_
                            refine wp_not (tj := 249) (b := true) rfl rfl (congrArg AV.bool hb16) rfl rfl ?_
                            refine wp_not (tj := 249) (b := true) rfl rfl (congrArg AV.bool hb16) rfl rfl ?_
                            refine wp_not (tj := 249) (b := true) rfl rfl (congrArg AV.bool hb16) rfl rfl ?_
                            refine wp_val (.bool true) rfl rfl (pv_pick (t := true) (congrArg AV.bool hb16) rfl) ?_
                            refine wp_val (.bool true) rfl rfl pv_move ?_
                            refine wp_not (tj := 256) (b := true) rfl rfl rfl rfl rfl ?_
                            refine wp_not (tj := 256) (b := true) rfl rfl rfl rfl rfl ?_
                            refine wp_not (tj := 256) (b := true) rfl rfl rfl rfl rfl ?_
                            refine wp_not (tj := 256) (b := true) rfl rfl rfl rfl rfl ?_
                            refine wp_not (tj := 256) (b := true) rfl rfl rfl rfl rfl ?_
                            refine wp_not (tj := 256) (b := true) rfl rfl rfl rfl rfl ?_
                            refine wp_not (tj := 256) (b := true) rfl rfl rfl rfl rfl ?_
                            refine wp_not (tj := 256) (b := true) rfl rfl rfl rfl rfl ?_
                            refine wp_not (tj := 256) (b := true) rfl rfl rfl rfl rfl ?_
                            refine wp_not (tj := 256) (b := true) rfl rfl rfl rfl rfl ?_
                            refine wp_not (tj := 256) (b := true) rfl rfl rfl rfl rfl ?_
                            refine wp_not (tj := 256) (b := true) rfl rfl rfl rfl rfl ?_
                            refine wp_val (.bool true) rfl rfl (pv_pick (t := true) rfl rfl) ?_
                            refine wp_nil ?_
                            refine wr_is [(3, (.ptr (ix ids 1) g1 0 0)), (16, (.ptr (ix ids 5) g5 0 0)), (176, (.sl 7 (List.map rRoute r2.1.Routes))), (177, (.int .i64 (r2.1.Routes.length : Int))), (178, (.int .i64 (j5 : Int))), (240, (.sl 1 (List.map (rI .i64) a11.Segments))), (241, (.int .i64 (a11.Segments.length : Int))), (242, (.int .i64 (j6 : Int))), (269, (.bool true))] (.cons rfl (.cons rfl (.cons rfl (.cons rfl (.cons rfl (.cons rfl (.cons rfl (.cons rfl (.cons rfl .nil))))))))) ?_
                            refine hJ5 true _ _ ?_
                            exact ⟨rfl, rfl⟩
                          · refine wp_valg (tj := 249) (.int .i64 a14) rfl rfl (congrArg AV.bool hb16) rfl pv_move ?_
                            refine wp_valg (tj := 249) (.ptr (ix ids 1) g1 0 3) rfl rfl (congrArg AV.bool hb16) rfl (pv_fa (fa_ptr (c := 0) (off := 3) (i := 3) ti31 rfl ti25 rfl)) ?_
                            refine wp_valg (tj := 249) (.sl 5 (List.map rSegment r2.1.Segments)) rfl rfl (congrArg AV.bool hb16) rfl (pv_load (ld_ptr hI rfl rfl rfl ti25 rfl)) ?_
                            refine wp_valg (tj := 249) (.int .i64 (r2.1.Segments.length : Int)) rfl rfl (congrArg AV.bool hb16) rfl (pv_len (len_sl ti25)) ?_
                            refine wp_valg (tj := 249) (.bool (decide (a14 ≥ (r2.1.Segments.length : Int)))) rfl rfl (congrArg AV.bool hb16) rfl (pv_bin rfl rfl rfl) ?_
                            refine wp_val (.bool (decide (a14 ≥ (r2.1.Segments.length : Int)))) rfl rfl (pv_pick (t := false) (congrArg AV.bool hb16) rfl) ?_
                            refine wp_val (.bool (decide (a14 ≥ (r2.1.Segments.length : Int)))) rfl rfl pv_move ?_
                            refine op_iteb (fun hb17 => ?_) (fun hb17 => ?_)
                            · refine wp_not (tj := 256) (b := true) rfl rfl (congrArg AV.bool hb17) rfl rfl ?_
                              refine wp_not (tj := 256) (b := true) rfl rfl (congrArg AV.bool hb17) rfl rfl ?_
                              refine wp_not (tj := 256) (b := true) rfl rfl (congrArg AV.bool hb17) rfl rfl ?_
                              refine wp_not (tj := 256) (b := true) rfl rfl (congrArg AV.bool hb17) rfl rfl ?_
                              refine wp_not (tj := 256) (b := true) rfl rfl (congrArg AV.bool hb17) rfl rfl ?_
                              refine wp_not (tj := 256) (b := true) rfl rfl (congrArg AV.bool hb17) rfl rfl ?_
                              refine wp_not (tj := 256) (b := true) rfl rfl (congrArg AV.bool hb17) rfl rfl ?_
                              refine wp_not (tj := 256) (b := true) rfl rfl (congrArg AV.bool hb17) rfl rfl ?_
                              refine wp_not (tj := 256) (b := true) rfl rfl (congrArg AV.bool hb17) rfl rfl ?_
                              refine wp_not (tj := 256) (b := true) rfl rfl (congrArg AV.bool hb17) rfl rfl ?_
                              refine wp_not (tj := 256) (b := true) rfl rfl (congrArg AV.bool hb17) rfl rfl ?_
                              refine wp_not (tj := 256) (b := true) rfl rfl (congrArg AV.bool hb17) rfl rfl ?_
                              refine wp_val (.bool true) rfl rfl (pv_pick (t := true) (congrArg AV.bool hb17) rfl) ?_
                              refine wp_nil ?_
                              refine wr_is [(3, (.ptr (ix ids 1) g1 0 0)), (16, (.ptr (ix ids 5) g5 0 0)), (176, (.sl 7 (List.map rRoute r2.1.Routes))), (177, (.int .i64 (r2.1.Routes.length : Int))), (178, (.int .i64 (j5 : Int))), (240, (.sl 1 (List.map (rI .i64) a11.Segments))), (241, (.int .i64 (a11.Segments.length : Int))), (242, (.int .i64 (j6 : Int))), (269, (.bool true))] (.cons rfl (.cons rfl (.cons rfl (.cons rfl (.cons rfl (.cons rfl (.cons rfl (.cons rfl (.cons rfl .nil))))))))) ?_
                              refine hJ5 true _ _ ?_
                              exact ⟨rfl, rfl⟩
                            · refine wp_valg (tj := 256) (.ptr (ix ids 1) g1 0 3) rfl rfl (congrArg AV.bool hb17) rfl (pv_fa (fa_ptr (c := 0) (off := 3) (i := 3) ti31 rfl ti25 rfl)) ?_
                              refine wp_valg (tj := 256) (.sl 5 (List.map rSegment r2.1.Segments)) rfl rfl (congrArg AV.bool hb17) rfl (pv_load (ld_ptr hI rfl rfl rfl ti25 rfl)) ?_
                              refine wp_valg (tj := 256) (.int .i64 a14) rfl rfl (congrArg AV.bool hb17) rfl pv_move ?_
                              refine op_idx fun a15 hz7 hx8 => ?_
                              refine wp_valg (tj := 256) (.cp (rSegment a15) 0) rfl rfl (congrArg AV.bool hb17) rfl (pv_ixa (ixa_sl ti25 ti57 rfl hz7 hx8)) ?_
                              refine wp_valg (tj := 256) (.cp (rSegment a15) 0) rfl rfl (congrArg AV.bool hb17) rfl (pv_fa (fa_cp (c := 0) (off := 0) (i := 0) ti57 rfl ti9 rfl)) ?_
                              refine wp_valg (tj := 256) (.str a15.Name) rfl rfl (congrArg AV.bool hb17) rfl (pv_load (ld_cp ti9 rfl)) ?_
                              refine wp_valg (tj := 256) (.ptr (ix ids 5) g5 0 5) rfl rfl (congrArg AV.bool hb17) rfl (pv_fa (fa_ptr (c := 0) (off := 5) (i := 5) ti59 rfl ti38 rfl)) ?_
                              refine wp_valg (tj := 256) (.sl 1 (List.map rS a11.Names)) rfl rfl (congrArg AV.bool hb17) rfl (pv_load (ld_ptr hI rfl rfl rfl ti38 rfl)) ?_
                              refine wp_valg (tj := 256) (.int .i64 (j6 : Int)) rfl rfl (congrArg AV.bool hb17) rfl pv_move ?_
                              refine op_idx fun a16 hz8 hx9 => ?_
                              refine wp_valg (tj := 256) (.cp [(.str a16)] 0) rfl rfl (congrArg AV.bool hb17) rfl (pv_ixa (ixa_sl ti38 ti9 rfl hz8 hx9)) ?_
                              refine wp_valg (tj := 256) (.str a16) rfl rfl (congrArg AV.bool hb17) rfl (pv_load (ld_cp ti9 rfl)) ?_
                              refine wp_valg (tj := 256) (.bool (!(a15.Name == a16))) rfl rfl (congrArg AV.bool hb17) rfl (pv_bin rfl rfl rfl) ?_
                              refine wp_val (.bool (!(a15.Name == a16))) rfl rfl (pv_pick (t := false) (congrArg AV.bool hb17) rfl) ?_
                              refine wp_nil ?_
                              refine wr_is [(3, (.ptr (ix ids 1) g1 0 0)), (16, (.ptr (ix ids 5) g5 0 0)), (176, (.sl 7 (List.map rRoute r2.1.Routes))), (177, (.int .i64 (r2.1.Routes.length : Int))), (178, (.int .i64 (j5 : Int))), (240, (.sl 1 (List.map (rI .i64) a11.Segments))), (241, (.int .i64 (a11.Segments.length : Int))), (242, (.int .i64 (j6 : Int))), (269, (.bool (!(a15.Name == a16))))] (.cons rfl (.cons rfl (.cons rfl (.cons rfl (.cons rfl (.cons rfl (.cons rfl (.cons rfl (.cons rfl .nil))))))))) ?_
                              refine hJ5 (!(a15.Name == a16)) _ _ ?_
                              exact ⟨rfl, rfl⟩
                      · rintro _ fr h ⟨rfl, rfl⟩
                        refine wr_mod (alt_inl _ _ _) ?_
                        refine wr_seq ?_
                        refine wr_region ?_
                        refine wo_val (.bool (decide ((a11.Segments.length : Int) < (a11.Segments.length : Int)))) rfl (pv_bin rfl rfl rfl) ?_
                        refine wo_nil ?_
                        refine wr_seq ?_
                        refine wr_condF rfl (Int.lt_irrefl _) ?_
                        refine wr_exit rfl ?_
                        refine wr_inBlock ?_
                        refine wr_region ?_
                        refine wo_val (.int .i64 (IntKind.wrap .i64 ((j5 : Int) + 1))) rfl (pv_bin rfl rfl rfl) ?_
                        refine wo_val (.int .i64 (IntKind.wrap .i64 ((j5 : Int) + 1))) rfl pv_move ?_
                        refine wo_nil ?_
                        refine wr_drop [none, (some (.rows g1 8 [(rAirspace r2.1)])), none, none, none, none, none] hI rfl (.keep (.keep (.keep (.keep (.keep (.drop (.keep .nil))))))) ?_
                        refine wr_is [(3, (.ptr (ix ids 1) g1 0 0)), (176, (.sl 7 (List.map rRoute r2.1.Routes))), (177, (.int .i64 (r2.1.Routes.length : Int))), (178, (.int .i64 ((j5 + 1 : Nat) : Int)))] (.cons rfl (.cons rfl (.cons rfl (.cons (inc_ok (lt_of_get ha11) hlim5) .nil)))) ?_
                        refine wb_each ?_
                        refine hW5 () _ _ ?_
                        exact ⟨rfl, rfl⟩
                  · refine wr_draw hmix [[], [0], [0, 1], [], [3], [3, 4], [0, 1, 2, 3, 4, 5], [0, 1, 2, 3, 4, 5, 6], [0, 1, 2, 3, 4, 5, 6, 7], [0, 1, 2, 3, 4, 5, 6, 7, 8], [0, 1, 2, 3, 4, 5, 6, 7, 8, 9], [0, 1, 2, 3, 4, 5, 6, 7, 8, 9, 10], [0, 1, 2, 3, 4, 5, 6, 7, 8, 9, 10, 11], [0, 1, 2, 3, 4, 5, 6, 7, 8, 9, 10, 11, 12], [0, 1, 2, 3, 4, 5, 6, 7, 8, 9, 10, 11, 12, 13], [0, 1, 2, 3, 4, 5, 6, 7, 8, 9, 10, 11, 12], [0, 1, 2, 3, 4, 5, 6, 7, 8, 9, 10, 11, 12, 15], [0, 1, 2, 3, 4, 5, 6, 7, 8, 9, 10, 11, 12, 15, 16], [0, 1, 2, 3, 4, 5, 6, 7, 8, 9, 10, 11, 12, 13, 14, 15, 16, 17], [0, 1, 2, 3, 4, 5, 6, 7, 8, 9, 10, 11, 12, 13, 14, 15, 16, 17, 18], [0, 1, 2, 3, 4, 5, 6, 7, 8, 9, 10, 11, 12, 13, 14, 15, 16, 17, 18, 19], [0, 1, 2, 3, 4, 5, 6, 7, 8, 9, 10, 11, 12, 13, 14, 15, 16, 17, 18, 19, 20], [0, 1, 2, 3, 4, 5, 6, 7, 8, 9, 10, 11, 12, 13, 14, 15, 16, 17, 18, 19, 20, 21], [0, 1, 2, 3, 4, 5, 6, 7, 8, 9, 10, 11, 12, 13, 14, 15, 16, 17, 18, 19, 20, 21, 22], [0, 1, 2, 3, 4, 5, 6, 7, 8, 9, 10, 11, 12, 13, 14, 15, 16, 17, 18, 19, 20, 21, 22, 23], [0, 1, 2, 3, 4, 5, 6, 7, 8, 9, 10, 11, 12, 13, 14, 15, 16, 17, 18, 19, 20, 21, 22, 23, 24], [0, 1, 2, 3, 4, 5, 6, 7, 8, 9, 10, 11, 12, 13, 14, 15, 16, 17, 18, 19, 20, 21, 22, 23, 24, 25], [0, 1, 2, 3, 4, 5, 6, 7, 8, 9, 10, 11, 12, 13, 14, 15, 16, 17, 18, 19, 20, 21, 22, 23, 24, 25, 26], [0, 1, 2, 3, 4, 5, 6, 7, 8, 9, 10, 11, 12, 13, 14, 15, 16, 17, 18, 19, 20, 21, 22, 23, 24, 25], [0, 1, 2, 3, 4, 5, 6, 7, 8, 9, 10, 11, 12, 13, 14, 15, 16, 17, 18, 19, 20, 21, 22, 23, 24, 25, 28], [0, 1, 2, 3, 4, 5, 6, 7, 8, 9, 10, 11, 12, 13, 14, 15, 16, 17, 18, 19, 20, 21, 22, 23, 24, 25, 28, 29], [0, 1, 2, 3, 4, 5, 6, 7, 8, 9, 10, 11, 12, 13, 14, 15, 16, 17, 18, 19, 20, 21, 22, 23, 24, 25, 26, 27, 28, 29, 30], [0, 1, 2, 3, 4, 5, 6, 7, 8, 9, 10, 11, 12, 13, 14, 15, 16, 17, 18, 19, 20, 21, 22, 23, 24, 25, 26, 27, 28, 29, 30, 31], [0, 1, 2, 3, 4, 5, 6, 7, 8, 9, 10, 11, 12, 13, 14, 15, 16, 17, 18, 19, 20, 21, 22, 23, 24, 25, 26, 27, 28, 29, 30, 31, 32], [0, 1, 2, 3, 4, 5, 6, 7, 8, 9, 10, 11, 12, 13, 14, 15, 16, 17, 18, 19, 20, 21, 22, 23, 24, 25, 26, 27, 28, 29, 30, 31, 32, 33], [0, 1, 2, 3, 4, 5, 6, 7, 8, 9, 10, 11, 12, 13, 14, 15, 16, 17, 18, 19, 20, 21, 22, 23, 24, 25, 26, 27, 28, 29, 30, 31, 32, 33, 34], [0, 1, 2, 3, 4, 5, 6, 7, 8, 9, 10, 11, 12, 13, 14, 15, 16, 17, 18, 19, 20, 21, 22, 23, 24, 25, 26, 27, 28, 29, 30, 31, 32, 33], [0, 1, 2, 3, 4, 5, 6, 7, 8, 9, 10, 11, 12, 13, 14, 15, 16, 17, 18, 19, 20, 21, 22, 23, 24, 25, 26, 27, 28, 29, 30, 31, 32, 33, 36], [0, 1, 2, 3, 4, 5, 6, 7, 8, 9, 10, 11, 12, 13, 14, 15, 16, 17, 18, 19, 20, 21, 22, 23, 24, 25, 26, 27, 28, 29, 30, 31, 32, 33, 34, 35, 36, 37], [0, 1, 2, 3, 4, 5, 6, 7, 8, 9, 10, 11, 12, 13, 14, 15, 16, 17, 18, 19, 20, 21, 22, 23, 24, 25, 26, 27, 28, 29, 30, 31, 32, 33, 34, 35, 36, 37, 38], [0, 1, 2, 3, 4, 5, 6, 7, 8, 9, 10, 11, 12, 13, 14, 15, 16, 17, 18, 19, 20, 21, 22, 23, 24, 25, 26, 27, 28, 29, 30, 31, 32, 33, 34, 35, 36, 37, 38, 39], [0, 1, 2, 3, 4, 5, 6, 7, 8, 9, 10, 11, 12, 13, 14, 15, 16, 17, 18, 19, 20, 21, 22, 23, 24, 25, 26, 27, 28, 29, 30, 31, 32, 33], [0, 1, 2, 3, 4, 5, 6, 7, 8, 9, 10, 11, 12, 13, 14, 15, 16, 17, 18, 19, 20, 21, 22, 23, 24, 25, 26, 27, 28, 29, 30, 31, 32, 33, 41], [0, 1, 2, 3, 4, 5, 6, 7, 8, 9, 10, 11, 12, 13, 14, 15, 16, 17, 18, 19, 20, 21, 22, 23, 24, 25, 26, 27, 28, 29, 30, 31, 32, 33, 34, 35, 36, 37, 38, 39, 40, 41, 42], [0, 1, 2, 3, 4, 5, 6, 7, 8, 9, 10, 11, 12, 13, 14, 15, 16, 17, 18, 19, 20, 21, 22, 23, 24, 25, 26, 27, 28, 29, 30, 31, 32, 33, 34, 35, 36, 37, 38, 39, 40, 41, 42, 43], [0, 1, 2, 3, 4, 5, 6, 7, 8, 9, 10, 11, 12, 13, 14, 15, 16, 17, 18, 19, 20, 21, 22, 23, 24, 25, 26, 27, 28, 29, 30, 31, 32, 33, 34, 35, 36, 37, 38, 39, 40, 41, 42, 43, 44], [0, 1, 2, 3, 4, 5, 6, 7, 8, 9, 10, 11, 12, 13, 14, 15, 16, 17, 18, 19, 20, 21, 22, 23, 24, 25, 26, 27, 28, 29, 30, 31, 32, 33, 34, 35, 36, 37, 38, 39, 40, 41, 42, 43, 44, 45], [0, 1, 2, 3, 4, 5, 6, 7, 8, 9, 10, 11, 12, 13, 14, 15, 16, 17, 18, 19, 20, 21, 22, 23, 24, 25, 26, 27, 28, 29, 30, 31, 32, 33, 34, 35, 36, 37, 38, 39, 40, 41, 42, 43, 44, 45, 46], [0, 1, 2, 3, 4, 5, 6, 7, 8, 9, 10, 11, 12, 13, 14, 15, 16, 17, 18, 19, 20, 21, 22, 23, 24, 25, 26, 27, 28, 29, 30, 31, 32, 33, 34, 35, 36, 37, 38, 39, 40, 41, 42, 43, 44, 45], [0, 1, 2, 3, 4, 5, 6, 7, 8, 9, 10, 11, 12, 13, 14, 15, 16, 17, 18, 19, 20, 21, 22, 23, 24, 25, 26, 27, 28, 29, 30, 31, 32, 33, 34, 35, 36, 37, 38, 39, 40, 41, 42, 43, 44, 45, 48], [0, 1, 2, 3, 4, 5, 6, 7, 8, 9, 10, 11, 12, 13, 14, 15, 16, 17, 18, 19, 20, 21, 22, 23, 24, 25, 26, 27, 28, 29, 30, 31, 32, 33, 34, 35, 36, 37, 38, 39, 40, 41, 42, 43, 44, 45, 46, 47, 48, 49], [0, 1, 2, 3, 4, 5, 6, 7, 8, 9, 10, 11, 12, 13, 14, 15, 16, 17, 18, 19, 20, 21, 22, 23, 24, 25, 26, 27, 28, 29, 30, 31, 32, 33, 34, 35, 36, 37, 38, 39, 40, 41, 42, 43, 44, 45, 46, 47, 48, 49, 50], [0, 1, 2, 3, 4, 5, 6, 7, 8, 9, 10, 11, 12, 13, 14, 15, 16, 17, 18, 19, 20, 21, 22, 23, 24, 25, 26, 27, 28, 29, 30, 31, 32, 33, 34, 35, 36, 37, 38, 39, 40, 41, 42, 43, 44, 45, 46, 47, 48, 49, 50, 51], [0, 1, 2, 3, 4, 5, 6, 7, 8, 9, 10, 11, 12, 13, 14, 15, 16, 17, 18, 19, 20, 21, 22, 23, 24, 25, 26, 27, 28, 29, 30, 31, 32, 33, 34, 35, 36, 37, 38, 39, 40, 41, 42, 43, 44, 45], [0, 1, 2, 3, 4, 5, 6, 7, 8, 9, 10, 11, 12, 13, 14, 15, 16, 17, 18, 19, 20, 21, 22, 23, 24, 25, 26, 27, 28, 29, 30, 31, 32, 33, 34, 35, 36, 37, 38, 39, 40, 41, 42, 43, 44, 45, 53], [0, 1, 2, 3, 4, 5, 6, 7, 8, 9, 10, 11, 12, 13, 14, 15, 16, 17, 18, 19, 20, 21, 22, 23, 24, 25, 26, 27, 28, 29, 30, 31, 32, 33, 34, 35, 36, 37, 38, 39, 40, 41, 42, 43, 44, 45, 46, 47, 48, 49, 50, 51, 52, 53, 54], [0, 1, 2, 3, 4, 5, 6, 7, 8, 9, 10, 11, 12, 13, 14, 15, 16, 17, 18, 19, 20, 21, 22, 23, 24, 25, 26, 27, 28, 29, 30, 31, 32, 33, 34, 35, 36, 37, 38, 39, 40, 41, 42, 43, 44, 45, 46, 47, 48, 49, 50, 51, 52, 53, 54, 55]] [(false, 0), (false, 1), (false, 2), (false, 3), (false, 4), (false, 5), (false, 6), (false, 7), (false, 8), (false, 9), (false, 10), (false, 11), (false, 12), (false, 13), (false, 14), (false, 15), (false, 16), (false, 17), (false, 18), (false, 19), (false, 20), (false, 21), (false, 22), (false, 23), (false, 24), (false, 25), (false, 26), (false, 27), (false, 28), (false, 29), (false, 30), (false, 31), (false, 32), (false, 33), (false, 34), (false, 35), (false, 36), (false, 37), (false, 38), (false, 39), (false, 40), (false, 41), (false, 42), (false, 43), (false, 44), (false, 45), (false, 46), (false, 47), (false, 48), (false, 49), (false, 50), (false, 51), (false, 52), (false, 53), (false, 54), (false, 55), (false, 56)] (by kernel_rfl) ?_
                    refine wp_val (.ptr (ix ids 5) g5 0 6) rfl rfl (pv_fa (fa_ptr (c := 0) (off := 6) (i := 6) ti59 rfl ti51 rfl)) ?_
                    refine wp_val (.sl 1 (List.map (rI .i64) a11.Segments)) rfl rfl (pv_load (ld_ptr hI rfl rfl rfl ti51 rfl)) ?_
                    refine wp_val (.int .i64 (a11.Segments.length : Int)) rfl rfl (pv_len (len_sl ti51)) ?_
                    refine wp_val (.ptr (ix ids 5) g5 0 5) rfl rfl (pv_fa (fa_ptr (c := 0) (off := 5) (i := 5) ti59 rfl ti38 rfl)) ?_
                    refine wp_val (.sl 1 (List.map rS a11.Names)) rfl rfl (pv_load (ld_ptr hI rfl rfl rfl ti38 rfl)) ?_
                    refine wp_val (.int .i64 (a11.Names.length : Int)) rfl rfl (pv_len (len_sl ti38)) ?_
                    refine wp_val (.bool ((a11.Segments.length : Int) != (a11.Names.length : Int))) rfl rfl (pv_bin rfl rfl rfl) ?_
                    refine wp_val (.bool ((a11.Segments.length : Int) != (a11.Names.length : Int))) rfl rfl pv_move ?_
                    refine op_iteb (fun hb10 => ?_) (fun hb10 => ?_)
                    · refine wp_not (tj := 189) (b := true) rfl rfl (congrArg AV.bool hb10) rfl rfl ?_
                      refine wp_not (tj := 189) (b := true) rfl rfl (congrArg AV.bool hb10) rfl rfl ?_
                      refine wp_not (tj := 189) (b := true) rfl rfl (congrArg AV.bool hb10) rfl rfl ?_
                      refine wp_val (.bool true) rfl rfl (pv_pick (t := true) (congrArg AV.bool hb10) rfl) ?_
                      refine wp_val (.bool true) rfl rfl pv_move ?_
                      refine wp_not (tj := 194) (b := true) rfl rfl rfl rfl rfl ?_
                      refine wp_not (tj := 194) (b := true) rfl rfl rfl rfl rfl ?_
                      refine wp_not (tj := 194) (b := true) rfl rfl rfl rfl rfl ?_
                      refine wp_not (tj := 194) (b := true) rfl rfl rfl rfl rfl ?_
                      refine wp_not (tj := 194) (b := true) rfl rfl rfl rfl rfl ?_
                      refine wp_not (tj := 194) (b := true) rfl rfl rfl rfl rfl ?_
                      refine wp_val (.bool true) rfl rfl (pv_pick (t := true) rfl rfl) ?_
                      refine wp_val (.bool true) rfl rfl pv_move ?_
                      refine wp_not (tj := 202) (b := true) rfl rfl rfl rfl rfl ?_
                      refine wp_not (tj := 202) (b := true) rfl rfl rfl rfl rfl ?_
                      refine wp_not (tj := 202) (b := true) rfl rfl rfl rfl rfl ?_
                      refine wp_val (.bool true) rfl rfl (pv_pick (t := true) rfl rfl) ?_
                      refine wp_val (.bool true) rfl rfl pv_move ?_
                      refine wp_not (tj := 207) (b := true) rfl rfl rfl rfl rfl ?_
                      refine wp_not (tj := 207) (b := true) rfl rfl rfl rfl rfl ?_
                      refine wp_not (tj := 207) (b := true) rfl rfl rfl rfl rfl ?_
                      refine wp_not (tj := 207) (b := true) rfl rfl rfl rfl rfl ?_
                      refine wp_not (tj := 207) (b := true) rfl rfl rfl rfl rfl ?_
                      refine wp_not (tj := 207) (b := true) rfl rfl rfl rfl rfl ?_
                      refine wp_val (.bool true) rfl rfl (pv_pick (t := true) rfl rfl) ?_
                      refine wp_val (.bool true) rfl rfl pv_move ?_
                      refine wp_not (tj := 215) (b := true) rfl rfl rfl rfl rfl ?_
                      refine wp_not (tj := 215) (b := true) rfl rfl rfl rfl rfl ?_
                      refine wp_not (tj := 215) (b := true) rfl rfl rfl rfl rfl ?_
                      refine wp_not (tj := 215) (b := true) rfl rfl rfl rfl rfl ?_
                      refine wp_not (tj := 215) (b := true) rfl rfl rfl rfl rfl ?_
                      refine wp_not (tj := 215) (b := true) rfl rfl rfl rfl rfl ?_
                      refine wp_not (tj := 215) (b := true) rfl rfl rfl rfl rfl ?_
                      refine wp_not (tj := 215) (b := true) rfl rfl rfl rfl rfl ?_
                      refine wp_not (tj := 215) (b := true) rfl rfl rfl rfl rfl ?_
                      refine wp_not (tj := 215) (b := true) rfl rfl rfl rfl rfl ?_
                      refine wp_val (.bool true) rfl rfl (pv_pick (t := true) rfl rfl) ?_
                      refine wp_val (.bool true) rfl rfl pv_move ?_
                      refine wp_not (tj := 227) (b := true) rfl rfl rfl rfl rfl ?_
                      refine wp_not (tj := 227) (b := true) rfl rfl rfl rfl rfl ?_
                      refine wp_not (tj := 227) (b := true) rfl rfl rfl rfl rfl ?_
                      refine wp_not (tj := 227) (b := true) rfl rfl rfl rfl rfl ?_
                      refine wp_not (tj := 227) (b := true) rfl rfl rfl rfl rfl ?_
                      refine wp_not (tj := 227) (b := true) rfl rfl rfl rfl rfl ?_
                      refine wp_not (tj := 227) (b := true) rfl rfl rfl rfl rfl ?_
                      refine wp_not (tj := 227) (b := true) rfl rfl rfl rfl rfl ?_
                      refine wp_not (tj := 227) (b := true) rfl rfl rfl rfl rfl ?_
                      refine wp_not (tj := 227) (b := true) rfl rfl rfl rfl rfl ?_
                      refine wp_val (.bool true) rfl rfl (pv_pick (t := true) rfl rfl) ?_
                      refine wp_nil ?_
                      refine wr_is [(3, (.ptr (ix ids 1) g1 0 0)), (16, (.ptr (ix ids 5) g5 0 0)), (176, (.sl 7 (List.map rRoute r2.1.Routes))), (177, (.int .i64 (r2.1.Routes.length : Int))), (178, (.int .i64 (j5 : Int))), (238, (.bool true))] (.cons rfl (.cons rfl (.cons rfl (.cons rfl (.cons rfl (.cons rfl .nil)))))) ?_
                      refine hJ6 true _ _ ?_
                      exact ⟨rfl, rfl⟩
                    · refine wp_valg (tj := 189) (.ptr (ix ids 5) g5 0 3) rfl rfl (congrArg AV.bool hb10) rfl (pv_fa (fa_ptr (c := 0) (off := 3) (i := 3) ti59 rfl ti3 rfl)) ?_
                      refine wp_valg (tj := 189) (.int .i64 a11.From) rfl rfl (congrArg AV.bool hb10) rfl (pv_load (ld_ptr hI rfl rfl rfl ti3 rfl)) ?_
                      refine wp_valg (tj := 189) (.bool (decide (a11.From < 0))) rfl rfl (congrArg AV.bool hb10) rfl (pv_bin rfl rfl rfl) ?_
                      refine wp_val (.bool (decide (a11.From < 0))) rfl rfl (pv_pick (t := false) (congrArg AV.bool hb10) rfl) ?_
                      refine wp_val (.bool (decide (a11.From < 0))) rfl rfl pv_move ?_
                      refine op_iteb (fun hb11 => ?_) (fun hb11 => ?_)
                      · refine wp_not (tj := 194) (b := true) rfl rfl (congrArg AV.bool hb11) rfl rfl ?_
                        refine wp_not (tj := 194) (b := true) rfl rfl (congrArg AV.bool hb11) rfl rfl ?_
                        refine wp_not (tj := 194) (b := true) rfl rfl (congrArg AV.bool hb11) rfl rfl ?_
                        refine wp_not (tj := 194) (b := true) rfl rfl (congrArg AV.bool hb11) rfl rfl ?_
                        refine wp_not (tj := 194) (b := true) rfl rfl (congrArg AV.bool hb11) rfl rfl ?_
                        refine wp_not (tj := 194) (b := true) rfl rfl (congrArg AV.bool hb11) rfl rfl ?_
                        refine wp_val (.bool true) rfl rfl (pv_pick (t := true) (congrArg AV.bool hb11) rfl) ?_
                        refine wp_val (.bool true) rfl rfl pv_move ?_
                        refine wp_not (tj := 202) (b := true) rfl rfl rfl rfl rfl ?_
                        refine wp_not (tj := 202) (b := true) rfl rfl rfl rfl rfl ?_
                        refine wp_not (tj := 202) (b := true) rfl rfl rfl rfl rfl ?_
                        refine wp_val (.bool true) rfl rfl (pv_pick (t := true) rfl rfl) ?_
                        refine wp_val (.bool true) rfl rfl pv_move ?_
                        refine wp_not (tj := 207) (b := true) rfl rfl rfl rfl rfl ?_
                        refine wp_not (tj := 207) (b := true) rfl rfl rfl rfl rfl ?_
                        refine wp_not (tj := 207) (b := true) rfl rfl rfl rfl rfl ?_
                        refine wp_not (tj := 207) (b := true) rfl rfl rfl rfl rfl ?_
                        refine wp_not (tj := 207) (b := true) rfl rfl rfl rfl rfl ?_
                        refine wp_not (tj := 207) (b := true) rfl rfl rfl rfl rfl ?_
                        refine wp_val (.bool true) rfl rfl (pv_pick (t := true) rfl rfl) ?_
                        refine wp_val (.bool true) rfl rfl pv_move ?_
                        refine wp_not (tj := 215) (b := true) rfl rfl rfl rfl rfl ?_
                        refine wp_not (tj := 215) (b := true) rfl rfl rfl rfl rfl ?_
                        refine wp_not (tj := 215) (b := true) rfl rfl rfl rfl rfl ?_
                        refine wp_not (tj := 215) (b := true) rfl rfl rfl rfl rfl ?_
                        refine wp_not (tj := 215) (b := true) rfl rfl rfl rfl rfl ?_
                        refine wp_not (tj := 215) (b := true) rfl rfl rfl rfl rfl ?_
                        refine wp_not (tj := 215) (b := true) rfl rfl rfl rfl rfl ?_
                        refine wp_not (tj := 215) (b := true) rfl rfl rfl rfl rfl ?_
                        refine wp_not (tj := 215) (b := true) rfl rfl rfl rfl rfl ?_
                        refine wp_not (tj := 215) (b := true) rfl rfl rfl rfl rfl ?_
                        refine wp_val (.bool true) rfl rfl (pv_pick (t := true) rfl rfl) ?_
                        refine wp_val (.bool true) rfl rfl pv_move ?_
                        refine wp_not (tj := 227) (b := true) rfl rfl rfl rfl rfl ?_
                        refine wp_not (tj := 227) (b := true) rfl rfl rfl rfl rfl ?_
                        refine wp_not (tj := 227) (b := true) rfl rfl rfl rfl rfl ?_
                        refine wp_not (tj := 227) (b := true) rfl rfl rfl rfl rfl ?_
                        refine wp_not (tj := 227) (b := true) rfl rfl rfl rfl rfl ?_
                        refine wp_not (tj := 227) (b := true) rfl rfl rfl rfl rfl ?_
                        refine wp_not (tj := 227) (b := true) rfl rfl rfl rfl rfl ?_
                        refine wp_not (tj := 227) (b := true) rfl rfl rfl rfl rfl ?_
                        refine wp_not (tj := 227) (b := true) rfl rfl rfl rfl rfl ?_
                        refine wp_not (tj := 227) (b := true) rfl rfl rfl rfl rfl ?_
                        refine wp_val (.bool true) rfl rfl (pv_pick (t := true) rfl rfl) ?_
                        refine wp_nil ?_
                        refine wr_is [(3, (.ptr (ix ids 1) g1 0 0)), (16, (.ptr (ix ids 5) g5 0 0)), (176, (.sl 7 (List.map rRoute r2.1.Routes))), (177, (.int .i64 (r2.1.Routes.length : Int))), (178, (.int .i64 (j5 : Int))), (238, (.bool true))] (.cons rfl (.cons rfl (.cons rfl (.cons rfl (.cons rfl (.cons rfl .nil)))))) ?_
                        refine hJ6 true _ _ ?_
                        exact ⟨rfl, rfl⟩
                      · refine wp_valg (tj := 194) (.ptr (ix ids 5) g5 0 3) rfl rfl (congrArg AV.bool hb11) rfl (pv_fa (fa_ptr (c := 0) (off := 3) (i := 3) ti59 rfl ti3 rfl)) ?_
                        refine wp_valg (tj := 194) (.int .i64 a11.From) rfl rfl (congrArg AV.bool hb11) rfl (pv_load (ld_ptr hI rfl rfl rfl ti3 rfl)) ?_
                        refine wp_valg (tj := 194) (.ptr (ix ids 1) g1 0 5) rfl rfl (congrArg AV.bool hb11) rfl (pv_fa (fa_ptr (c := 0) (off := 5) (i := 5) ti31 rfl ti27 rfl)) ?_
                        refine wp_valg (tj := 194) (.sl 2 (List.map rAirport r2.1.Airports)) rfl rfl (congrArg AV.bool hb11) rfl (pv_load (ld_ptr hI rfl rfl rfl ti27 rfl)) ?_
                        refine wp_valg (tj := 194) (.int .i64 (r2.1.Airports.length : Int)) rfl rfl (congrArg AV.bool hb11) rfl (pv_len (len_sl ti27)) ?_
                        refine wp_valg (tj := 194) (.bool (decide (a11.From ≥ (r2.1.Airports.length : Int)))) rfl rfl (congrArg AV.bool hb11) rfl (pv_bin rfl rfl rfl) ?_
                        refine wp_val (.bool (decide (a11.From ≥ (r2.1.Airports.length : Int)))) rfl rfl (pv_pick (t := false) (congrArg AV.bool hb11) rfl) ?_
                        refine wp_val (.bool (decide (a11.From ≥ (r2.1.Airports.length : Int)))) rfl rfl pv_move ?_
                        refine op_iteb (fun hb12 => ?_) (fun hb12 => ?_)
                        · refine wp_not (tj := 202) (b := true) rfl rfl (congrArg AV.bool hb12) rfl rfl ?_
                          refine wp_not (tj := 202) (b := true) rfl rfl (congrArg AV.bool hb12) rfl rfl ?_
                          refine wp_not (tj := 202) (b := true) rfl rfl (congrArg AV.bool hb12) rfl rfl ?_
                          refine wp_val (.bool true) rfl rfl (pv_pick (t := true) (congrArg AV.bool hb12) rfl) ?_
                          refine wp_val (.bool true) rfl rfl pv_move ?_
                          refine wp_not (tj := 207) (b := true) rfl rfl rfl rfl rfl ?_
                          refine wp_not (tj := 207) (b := true) rfl rfl rfl rfl rfl ?_
                          refine wp_not (tj := 207) (b := true) rfl rfl rfl rfl rfl ?_
                          refine wp_not (tj := 207) (b := true) rfl rfl rfl rfl rfl ?_
                          refine wp_not (tj := 207) (b := true) rfl rfl rfl rfl rfl ?_
                          refine wp_not (tj := 207) (b := true) rfl rfl rfl rfl rfl ?_
                          refine wp_val (.bool true) rfl rfl (pv_pick (t := true) rfl rfl) ?_
                          refine wp_val (.bool true) rfl rfl pv_move ?_
                          refine wp_not (tj := 215) (b := true) rfl rfl rfl rfl rfl ?_
                          refine wp_not (tj := 215) (b := true) rfl rfl rfl rfl rfl ?_
                          refine wp_not (tj := 215) (b := true) rfl rfl rfl rfl rfl ?_
                          refine wp_not (tj := 215) (b := true) rfl rfl rfl rfl rfl ?_
                          refine wp_not (tj := 215) (b := true) rfl rfl rfl rfl rfl ?_
                          refine wp_not (tj := 215) (b := true) rfl rfl rfl rfl rfl ?_
                          refine wp_not (tj := 215) (b := true) rfl rfl rfl rfl rfl ?_
                          refine wp_not (tj := 215) (b := true) rfl rfl rfl rfl rfl ?_
                          refine wp_not (tj := 215) (b := true) rfl rfl rfl rfl rfl ?_
                          refine wp_not (tj := 215) (b := true) rfl rfl rfl rfl rfl ?_
                          refine wp_val (.bool true) rfl rfl (pv_pick (t := true) rfl rfl) ?_
                          refine wp_val (.bool true) rfl rfl pv_move ?_
                          refine wp_not (tj := 227) (b := true) rfl rfl rfl rfl rfl ?_
                          refine wp_not (tj := 227) (b := true) rfl rfl rfl rfl rfl ?_
                          refine wp_not (tj := 227) (b := true) rfl rfl rfl rfl rfl ?_
                          refine wp_not (tj := 227) (b := true) rfl rfl rfl rfl rfl ?_
                          refine wp_not (tj := 227) (b := true) rfl rfl rfl rfl rfl ?_
                          refine wp_not (tj := 227) (b := true) rfl rfl rfl rfl rfl ?_
                          refine wp_not (tj := 227) (b := true) rfl rfl rfl rfl rfl ?_
                          refine wp_not (tj := 227) (b := true) rfl rfl rfl rfl rfl ?_
                          refine wp_not (tj := 227) (b := true) rfl rfl rfl rfl rfl ?_
                          refine wp_not (tj := 227) (b := true) rfl rfl rfl rfl rfl ?_
                          refine wp_val (.bool true) rfl rfl (pv_pick (t := true) rfl rfl) ?_
                          refine wp_nil ?_
                          refine wr_is [(3, (.ptr (ix ids 1) g1 0 0)), (16, (.ptr (ix ids 5) g5 0 0)), (176, (.sl 7 (List.map rRoute r2.1.Routes))), (177, (.int .i64 (r2.1.Routes.length : Int))), (178, (.int .i64 (j5 : Int))), (238, (.bool true))] (.cons rfl (.cons rfl (.cons rfl (.cons rfl (.cons rfl (.cons rfl .nil)))))) ?_
                          refine hJ6 true _ _ ?_
                          exact ⟨rfl, rfl⟩
                        · refine wp_valg (tj := 202) (.ptr (ix ids 5) g5 0 4) rfl rfl (congrArg AV.bool hb12) rfl (pv_fa (fa_ptr (c := 0) (off := 4) (i := 4) ti59 rfl ti3 rfl)) ?_
                          refine wp_valg (tj := 202) (.int .i64 a11.To) rfl rfl (congrArg AV.bool hb12) rfl (pv_load (ld_ptr hI rfl rfl rfl ti3 rfl)) ?_
                          refine wp_valg (tj := 202) (.bool (decide (a11.To < 0))) rfl rfl (congrArg AV.bool hb12) rfl (pv_bin rfl rfl rfl) ?_
                          refine wp_val (.bool (decide (a11.To < 0))) rfl rfl (pv_pick (t := false) (congrArg AV.bool hb12) rfl) ?_
                          refine wp_val (.bool (decide (a11.To < 0))) rfl rfl pv_move ?_
                          refine op_iteb (fun hb13 => ?_) (fun hb13 => ?_)
                          · refine wp_not (tj := 207) (b := true) rfl rfl (congrArg AV.bool hb13) rfl rfl ?_
                            refine wp_not (tj := 207) (b := true) rfl rfl (congrArg AV.bool hb13) rfl rfl ?_
                            refine wp_not (tj := 207) (b := true) rfl rfl (congrArg AV.bool hb13) rfl rfl ?_
                            refine wp_not (tj := 207) (b := true) rfl rfl (congrArg AV.bool hb13) rfl rfl ?_
                            refine wp_not (tj := 207) (b := true) rfl rfl (congrArg AV.bool hb13) rfl rfl ?_
                            refine wp_not (tj := 207) (b := true) rfl rfl (congrArg AV.bool hb13) rfl rfl ?_
                            refine wp_val (.bool true) rfl rfl (pv_pick (t := true) (congrArg AV.bool hb13) rfl) ?_
                            refine wp_val (.bool true) rfl rfl pv_move ?_
                            refine wp_not (tj := 215) (b := true) rfl rfl rfl rfl rfl ?_
                            refine wp_not (tj := 215) (b := true) rfl rfl rfl rfl rfl ?_
                            refine wp_not (tj := 215) (b := true) rfl rfl rfl rfl rfl ?_
                            refine wp_not (tj := 215) (b := true) rfl rfl rfl rfl rfl ?_
                            refine wp_not (tj := 215) (b := true) rfl rfl rfl rfl rfl ?_
                            refine wp_not (tj := 215) (b := true) rfl rfl rfl rfl rfl ?_
                            refine wp_not (tj := 215) (b := true) rfl rfl rfl rfl rfl ?_
                            refine wp_not (tj := 215) (b := true) rfl rfl rfl rfl rfl ?_
                            refine wp_not (tj := 215) (b := true) rfl rfl rfl rfl rfl ?_
                            refine wp_not (tj := 215) (b := true) rfl rfl rfl rfl rfl ?_
                            refine wp_val (.bool true) rfl rfl (pv_pick (t := true) rfl rfl) ?_
                            refine wp_val (.bool true) rfl rfl pv_move ?_
                            refine wp_not (tj := 227) (b := true) rfl rfl rfl rfl rfl ?_
                            refine wp_not (tj := 227) (b := true) rfl rfl rfl rfl rfl ?_
                            refine wp_not (tj := 227) (b := true) rfl rfl rfl rfl rfl ?_
                            refine wp_not (tj := 227) (b := true) rfl rfl rfl rfl rfl ?_
                            refine wp_not (tj := 227) (b := true) rfl rfl rfl rfl rfl ?_
                            refine wp_not (tj := 227) (b := true) rfl rfl rfl rfl rfl ?_
                            refine wp_not (tj := 227) (b := true) rfl rfl rfl rfl rfl ?_
                            refine wp_not (tj := 227) (b := true) rfl rfl rfl rfl rfl ?_
                            refine wp_not (tj := 227) (b := true) rfl rfl rfl rfl rfl ?_
                            refine wp_not (tj := 227) (b := true) rfl rfl rfl rfl rfl ?_
                            refine wp_val (.bool true) rfl rfl (pv_pick (t := true) rfl rfl) ?_
                            refine wp_nil ?_
                            refine wr_is [(3, (.ptr (ix ids 1) g1 0 0)), (16, (.ptr (ix ids 5) g5 0 0)), (176, (.sl 7 (List.map rRoute r2.1.Routes))), (177, (.int .i64 (r2.1.Routes.length : Int))), (178, (.int .i64 (j5 : Int))), (238, (.bool true))] (.cons rfl (.cons rfl (.cons rfl (.cons rfl (.cons rfl (.cons rfl .nil)))))) ?_
                            refine hJ6 true _ _ ?_
                            exact ⟨rfl, rfl⟩
                          · refine wp_valg (tj := 207) (.ptr (ix ids 5) g5 0 4) rfl rfl (congrArg AV.bool hb13) rfl (pv_fa (fa_ptr (c := 0) (off := 4) (i := 4) ti59 rfl ti3 rfl)) ?_
                            refine wp_valg (tj := 207) (.int .i64 a11.To) rfl rfl (congrArg AV.bool hb13) rfl (pv_load (ld_ptr hI rfl rfl rfl ti3 rfl)) ?_
                            refine wp_valg (tj := 207) (.ptr (ix ids 1) g1 0 5) rfl rfl (congrArg AV.bool hb13) rfl (pv_fa (fa_ptr (c := 0) (off := 5) (i := 5) ti31 rfl ti27 rfl)) ?_
                            refine wp_valg (tj := 207) (.sl 2 (List.map rAirport r2.1.Airports)) rfl rfl (congrArg AV.bool hb13) rfl (pv_load (ld_ptr hI rfl rfl rfl ti27 rfl)) ?_
                            refine wp_valg (tj := 207) (.int .i64 (r2.1.Airports.length : Int)) rfl rfl (congrArg AV.bool hb13) rfl (pv_len (len_sl ti27)) ?_
                            refine wp_valg (tj := 207) (.bool (decide (a11.To ≥ (r2.1.Airports.length : Int)))) rfl rfl (congrArg AV.bool hb13) rfl (pv_bin rfl rfl rfl) ?_
                            refine wp_val (.bool (decide (a11.To ≥ (r2.1.Airports.length : Int)))) rfl rfl (pv_pick (t := false) (congrArg AV.bool hb13) rfl) ?_
                            refine wp_val (.bool (decide (a11.To ≥ (r2.1.Airports.length : Int)))) rfl rfl pv_move ?_
                            refine op_iteb (fun hb14 => ?_) (fun hb14 => ?_)
                            · refine wp_not (tj := 215) (b := true) rfl rfl (congrArg AV.bool hb14) rfl rfl ?_
                              refine wp_not (tj := 215) (b := true) rfl rfl (congrArg AV.bool hb14) rfl rfl ?_
                              refine wp_not (tj := 215) (b := true) rfl rfl (congrArg AV.bool hb14) rfl rfl ?_
                              refine wp_not (tj := 215) (b := true) rfl rfl (congrArg AV.bool hb14) rfl rfl ?_
                              refine wp_not (tj := 215) (b := true) rfl rfl (congrArg AV.bool hb14) rfl rfl ?_
                              refine wp_not (tj := 215) (b := true) rfl rfl (congrArg AV.bool hb14) rfl rfl ?_
                              refine wp_not (tj := 215) (b := true) rfl rfl (congrArg AV.bool hb14) rfl rfl ?_
                              refine wp_not (tj := 215) (b := true) rfl rfl (congrArg AV.bool hb14) rfl rfl ?_
                              refine wp_not (tj := 215) (b := true) rfl rfl (congrArg AV.bool hb14) rfl rfl ?_
                              refine wp_not (tj := 215) (b := true) rfl rfl (congrArg AV.bool hb14) rfl rfl ?_
                              refine wp_val (.bool true) rfl rfl (pv_pick (t := true) (congrArg AV.bool hb14) rfl) ?_
                              refine wp_val (.bool true) rfl rfl pv_move ?_
                              refine wp_not (tj := 227) (b := true) rfl rfl rfl rfl rfl ?_
                              refine wp_not (tj := 227) (b := true) rfl rfl rfl rfl rfl ?_
                              refine wp_not (tj := 227) (b := true) rfl rfl rfl rfl rfl ?_
                              refine wp_not (tj := 227) (b := true) rfl rfl rfl rfl rfl ?_
                              refine wp_not (tj := 227) (b := true) rfl rfl rfl rfl rfl ?_
                              refine wp_not (tj := 227) (b := true) rfl rfl rfl rfl rfl ?_
                              refine wp_not (tj := 227) (b := true) rfl rfl rfl rfl rfl ?_
                              refine wp_not (tj := 227) (b := true) rfl rfl rfl rfl rfl ?_
                              refine wp_not (tj := 227) (b := true) rfl rfl rfl rfl rfl ?_
                              refine wp_not (tj := 227) (b := true) rfl rfl rfl rfl rfl ?_
                              refine wp_val (.bool true) rfl rfl (pv_pick (t := true) rfl rfl) ?_
                              refine wp_nil ?_
                              refine wr_is [(3, (.ptr (ix ids 1) g1 0 0)), (16, (.ptr (ix ids 5) g5 0 0)), (176, (.sl 7 (List.map rRoute r2.1.Routes))), (177, (.int .i64 (r2.1.Routes.length : Int))), (178, (.int .i64 (j5 : Int))), (238, (.bool true))] (.cons rfl (.cons rfl (.cons rfl (.cons rfl (.cons rfl (.cons rfl .nil)))))) ?_
                              refine hJ6 true _ _ ?_
                              exact ⟨rfl, rfl⟩
                            · refine wp_valg (tj := 215) (.ptr (ix ids 1) g1 0 5) rfl rfl (congrArg AV.bool hb14) rfl (pv_fa (fa_ptr (c := 0) (off := 5) (i := 5) ti31 rfl ti27 rfl)) ?_
                              refine wp_valg (tj := 215) (.sl 2 (List.map rAirport r2.1.Airports)) rfl rfl (congrArg AV.bool hb14) rfl (pv_load (ld_ptr hI rfl rfl rfl ti27 rfl)) ?_
                              refine wp_valg (tj := 215) (.ptr (ix ids 5) g5 0 3) rfl rfl (congrArg AV.bool hb14) rfl (pv_fa (fa_ptr (c := 0) (off := 3) (i := 3) ti59 rfl ti3 rfl)) ?_
                              refine wp_valg (tj := 215) (.int .i64 a11.From) rfl rfl (congrArg AV.bool hb14) rfl (pv_load (ld_ptr hI rfl rfl rfl ti3 rfl)) ?_
                              refine op_idx fun a12 hz5 hx6 => ?_
                              refine wp_valg (tj := 215) (.cp (rAirport a12) 0) rfl rfl (congrArg AV.bool hb14) rfl (pv_ixa (ixa_sl ti27 ti46 rfl hz5 hx6)) ?_
                              refine wp_valg (tj := 215) (.cp (rAirport a12) 0) rfl rfl (congrArg AV.bool hb14) rfl (pv_fa (fa_cp (c := 0) (off := 0) (i := 0) ti46 rfl ti9 rfl)) ?_
                              refine wp_valg (tj := 215) (.str a12.Name) rfl rfl (congrArg AV.bool hb14) rfl (pv_load (ld_cp ti9 rfl)) ?_
                              refine wp_valg (tj := 215) (.ptr (ix ids 5) g5 0 1) rfl rfl (congrArg AV.bool hb14) rfl (pv_fa (fa_ptr (c := 0) (off := 1) (i := 1) ti59 rfl ti9 rfl)) ?_
                              refine wp_valg (tj := 215) (.str a11.A) rfl rfl (congrArg AV.bool hb14) rfl (pv_load (ld_ptr hI rfl rfl rfl ti9 rfl)) ?_
                              refine wp_valg (tj := 215) (.bool (!(a12.Name == a11.A))) rfl rfl (congrArg AV.bool hb14) rfl (pv_bin rfl rfl rfl) ?_
                              refine wp_val (.bool (!(a12.Name == a11.A))) rfl rfl (pv_pick (t := false) (congrArg AV.bool hb14) rfl) ?_
                              refine wp_val (.bool (!(a12.Name == a11.A))) rfl rfl pv_move ?_
                              refine op_iteb (fun hb15 => ?_) (fun hb15 => ?_)
                              · refine wp_not (tj := 227) (b := true) rfl rfl (congrArg AV.bool hb15) rfl rfl ?_
                                refine wp_not (tj := 227) (b := true) rfl rfl (congrArg AV.bool hb15) rfl rfl ?_
                                refine wp_not (tj := 227) (b := true) rfl rfl (congrArg AV.bool hb15) rfl rfl ?_
                                refine wp_not (tj := 227) (b := true) rfl rfl (congrArg AV.bool hb15) rfl rfl ?_
                                refine wp_not (tj := 227) (b := true) rfl rfl (congrArg AV.bool hb15) rfl rfl ?_
                                refine wp_not (tj := 227) (b := true) rfl rfl (congrArg AV.bool hb15) rfl rfl ?_
                                refine wp_not (tj := 227) (b := true) rfl rfl (congrArg AV.bool hb15) rfl rfl ?_
                                refine wp_not (tj := 227) (b := true) rfl rfl (congrArg AV.bool hb15) rfl rfl ?_
                                refine wp_not (tj := 227) (b := true) rfl rfl (congrArg AV.bool hb15) rfl rfl ?_
                                refine wp_not (tj := 227) (b := true) rfl rfl (congrArg AV.bool hb15) rfl rfl ?_
                                refine wp_val (.bool true) rfl rfl (pv_pick (t := true) (congrArg AV.bool hb15) rfl) ?_
                                refine wp_nil ?_
                                refine wr_is [(3, (.ptr (ix ids 1) g1 0 0)), (16, (.ptr (ix ids 5) g5 0 0)), (176, (.sl 7 (List.map rRoute r2.1.Routes))), (177, (.int .i64 (r2.1.Routes.length : Int))), (178, (.int .i64 (j5 : Int))), (238, (.bool true))] (.cons rfl (.cons rfl (.cons rfl (.cons rfl (.cons rfl (.cons rfl .nil)))))) ?_
                                refine hJ6 true _ _ ?_
                                exact ⟨rfl, rfl⟩
                              · refine wp_valg (tj := 227) (.ptr (ix ids 1) g1 0 5) rfl rfl (congrArg AV.bool hb15) rfl (pv_fa (fa_ptr (c := 0) (off := 5) (i := 5) ti31 rfl ti27 rfl)) ?_
                                refine wp_valg (tj := 227) (.sl 2 (List.map rAirport r2.1.Airports)) rfl rfl (congrArg AV.bool hb15) rfl (pv_load (ld_ptr hI rfl rfl rfl ti27 rfl)) ?_
                                refine wp_valg (tj := 227) (.ptr (ix ids 5) g5 0 4) rfl rfl (congrArg AV.bool hb15) rfl (pv_fa (fa_ptr (c := 0) (off := 4) (i := 4) ti59 rfl ti3 rfl)) ?_
                                refine wp_valg (tj := 227) (.int .i64 a11.To) rfl rfl (congrArg AV.bool hb15) rfl (pv_load (ld_ptr hI rfl rfl rfl ti3 rfl)) ?_
                                refine op_idx fun a13 hz6 hx7 => ?_
                                refine wp_valg (tj := 227) (.cp (rAirport a13) 0) rfl rfl (congrArg AV.bool hb15) rfl (pv_ixa (ixa_sl ti27 ti46 rfl hz6 hx7)) ?_
                                refine wp_valg (tj := 227) (.cp (rAirport a13) 0) rfl rfl (congrArg AV.bool hb15) rfl (pv_fa (fa_cp (c := 0) (off := 0) (i := 0) ti46 rfl ti9 rfl)) ?_
                                refine wp_valg (tj := 227) (.str a13.Name) rfl rfl (congrArg AV.bool hb15) rfl (pv_load (ld_cp ti9 rfl)) ?_
                                refine wp_valg (tj := 227) (.ptr (ix ids 5) g5 0 2) rfl rfl (congrArg AV.bool hb15) rfl (pv_fa (fa_ptr (c := 0) (off := 2) (i := 2) ti59 rfl ti9 rfl)) ?_
                                refine wp_valg (tj := 227) (.str a11.B) rfl rfl (congrArg AV.bool hb15) rfl (pv_load (ld_ptr hI rfl rfl rfl ti9 rfl)) ?_
                                refine wp_valg (tj := 227) (.bool (!(a13.Name == a11.B))) rfl rfl (congrArg AV.bool hb15) rfl (pv_bin rfl rfl rfl) ?_
                                refine wp_val (.bool (!(a13.Name == a11.B))) rfl rfl (pv_pick (t := false) (congrArg AV.bool hb15) rfl) ?_
                                refine wp_nil ?_
                                refine wr_is [(3, (.ptr (ix ids 1) g1 0 0)), (16, (.ptr (ix ids 5) g5 0 0)), (176, (.sl 7 (List.map rRoute r2.1.Routes))), (177, (.int .i64 (r2.1.Routes.length : Int))), (178, (.int .i64 (j5 : Int))), (238, (.bool (!(a13.Name == a11.B))))] (.cons rfl (.cons rfl (.cons rfl (.cons rfl (.cons rfl (.cons rfl .nil)))))) ?_
                                refine hJ6 (!(a13.Name == a11.B)) _ _ ?_
                                exact ⟨rfl, rfl⟩
                · rintro _ fr h ⟨rfl, rfl⟩
                  refine wr_mod (alt_inl _ _ _) ?_
                  refine wr_seq ?_
                  refine wr_region ?_
                  refine wo_val (.bool (decide ((r2.1.Routes.length : Int) < (r2.1.Routes.length : Int)))) rfl (pv_bin rfl rfl rfl) ?_
                  refine wo_nil ?_
                  refine wr_seq ?_
                  refine wr_condF rfl (Int.lt_irrefl _) ?_
                  refine wr_exit rfl ?_
                  refine wr_seq ?_
                  refine wr_seq ?_
                  refine wr_region ?_
                  refine wo_val (.ptr (ix ids 1) g1 0 7) rfl (pv_fa (fa_ptr (c := 0) (off := 7) (i := 7) ti31 rfl ti29 rfl)) ?_
                  refine wo_val (.sl 8 (List.map rRule r2.1.Rules)) rfl (pv_load (ld_ptr hI rfl rfl rfl ti29 rfl)) ?_
                  refine wo_val (.int .i64 (r2.1.Rules.length : Int)) rfl (pv_len (len_sl ti29)) ?_
                  refine wo_val (.int .i64 0) rfl pv_move ?_
                  refine wo_nil ?_
                  refine wr_block ?_
                  refine wr_is [(3, (.ptr (ix ids 1) g1 0 0)), (273, (.sl 8 (List.map rRule r2.1.Rules))), (274, (.int .i64 (r2.1.Rules.length : Int))), (275, (.int .i64 0))] (.cons rfl (.cons rfl (.cons rfl (.cons rfl .nil)))) ?_
                  refine wf_each' r2.1.Rules (fun _ a17 => fun _ => law09_NamesMeans_b8 r2 a17) ((alt (fun _ => .ok true) (fun r => .ok r)) : _ → R Bool)
                    (fun j7 => fun _ => fun (fr : Nat → AV) (h : AHeap) => fr = frA [(3, (.ptr (ix ids 1) g1 0 0)), (273, (.sl 8 (List.map rRule r2.1.Rules))), (274, (.int .i64 (r2.1.Rules.length : Int))), (275, (.int .i64 (j7 : Int)))] ∧ h = hp h0 ids [none, (some (.rows g1 8 [(rAirspace r2.1)])), none, none, none, none, none]) () ?_ ?_ ?_
                  · exact ⟨rfl, rfl⟩
                  · rintro j7 a17 ha17 W hW7 _ fr h ⟨rfl, rfl⟩
                    refine wr_mod (m' := law09_NamesMeans_b8 r2 a17) rfl (wr_mod (law09_NamesMeans_b8.eq_1 _ _) ?_)
                    refine wr_seq ?_
                    refine wr_region ?_
                    refine wo_val (.bool (decide ((j7 : Int) < (r2.1.Rules.length : Int)))) rfl (pv_bin rfl rfl rfl) ?_
                    refine wo_nil ?_
                    refine wr_seq ?_
                    refine wr_lim (t := 273) (L := r2.1.Rules) rfl fun hlim7 => ?_
                    refine wr_condT rfl (Int.ofNat_lt.2 (lt_of_get ha17)) ?_
                    refine wr_skip ?_
                    refine wr_seq ?_
                    refine wr_block ?_
                    refine wr_seq ?_
                    refine wr_region ?_
                    refine wo_val (.cp (rRule a17) 0) rfl (pv_ixa (ixa_nat ti29 ti63 rfl ha17)) ?_
                    refine wo_val (.agg (rRule a17)) rfl (pv_load (ld_cp ti63 rfl)) ?_
                    refine wo_alloc (j := 6) hI rfl rfl rfl rfl ti63 rfl fun g6 => ?_
                    refine wo_store (st_ptr hI rfl rfl rfl rfl ti63 rfl rfl rfl rfl rfl) ?_
                    refine wo_nil ?_
                    refine wr_hp [none, (some (.rows g1 8 [(rAirspace r2.1)])), none, none, none, none, (some (.rows g6 8 [(rRule a17)]))] rfl ?_
                    refine wr_seq ?_
                    refine wr_seq ?_
                    refine wf_join (fun x13 => law09_NamesMeans_j7 r2 a17 x13) (fun x13 => fun (fr : Nat → AV) (h : AHeap) => fr = frA [(3, (.ptr (ix ids 1) g1 0 0)), (20, (.ptr (ix ids 6) g6 0 0)), (273, (.sl 8 (List.map rRule r2.1.Rules))), (274, (.int .i64 (r2.1.Rules.length : Int))), (275, (.int .i64 (j7 : Int))), (311, (.bool x13))] ∧ h = hp h0 ids [none, (some (.rows g1 8 [(rAirspace r2.1)])), none, none, none, none, (some (.rows g6 8 [(rRule a17)]))]) ?_ fun hJ8 => ?_
                    · rintro x13 fr h ⟨rfl, rfl⟩
                      refine wr_mod (law09_NamesMeans_j7.eq_1 _ _ _) ?_
                      refine wf_iteb rfl (fun hc11 => ?_) (fun hc11 => ?_)
                      · refine wr_seq ?_
                        refine wr_region ?_
                        refine wo_val (.bool false) rfl pv_assign ?_
                        refine wo_nil ?_
                        refine wx_each ?_
                        refine w_altr ?_
                        exact wr_ret (a := false) (vs := [(.bool false)]) Try.func5 hI rfl (.same _)
                      · refine wr_skip ?_
                        refine wr_seq ?_
                        refine wf_join (fun x14 => law09_NamesMeans_j6 x14) (fun x14 => fun (fr : Nat → AV) (h : AHeap) => fr = frA [(3, (.ptr (ix ids 1) g1 0 0)), (273, (.sl 8 (List.map rRule r2.1.Rules))), (274, (.int .i64 (r2.1.Rules.length : Int))), (275, (.int .i64 (j7 : Int))), (339, (.bool x14))] ∧ h = hp h0 ids [none, (some (.rows g1 8 [(rAirspace r2.1)])), none, none, none, none, none]) ?_ fun hJ7 => ?_
                        · rintro x14 fr h ⟨rfl, rfl⟩
                          refine wr_mod (law09_NamesMeans_j6.eq_1 _) ?_
                          refine wf_iteb rfl (fun hc12 => ?_) (fun hc12 => ?_)
                          · refine wr_seq ?_
                            refine wr_region ?_
                            refine wo_val (.bool false) rfl pv_assign ?_
                            refine wo_nil ?_
                            refine wx_each ?_
                            refine w_altr ?_
                            exact wr_ret (a := false) (vs := [(.bool false)]) Try.func5 hI rfl (.same _)
                          · refine wr_skip ?_
                            refine wr_inBlock ?_
                            refine wr_region ?_
                            refine wo_val (.int .i64 (IntKind.wrap .i64 ((j7 : Int) + 1))) rfl (pv_bin rfl rfl rfl) ?_
                            refine wo_val (.int .i64 (IntKind.wrap .i64 ((j7 : Int) + 1))) rfl pv_move ?_
                            refine wo_nil ?_
                            refine wr_is [(3, (.ptr (ix ids 1) g1 0 0)), (273, (.sl 8 (List.map rRule r2.1.Rules))), (274, (.int .i64 (r2.1.Rules.length : Int))), (275, (.int .i64 ((j7 + 1 : Nat) : Int)))] (.cons rfl (.cons rfl (.cons rfl (.cons (inc_ok (lt_of_get ha17) hlim7) .nil)))) ?_
                            refine wb_each ?_
                            refine hW7 () _ _ ?_
                            exact ⟨rfl, rfl⟩
                        · refine wr_draw hmix [[], [0], [0, 1], [0, 1, 2], [0, 1, 2, 3], [0, 1, 2, 3, 4], [0, 1, 2, 3, 4, 5], [0, 1, 2, 3, 4, 5, 6], [0, 1, 2, 3, 4, 5, 6, 7], [0, 1, 2, 3, 4, 5, 6, 7, 8], [0, 1, 2, 3, 4, 5, 6, 7], [0, 1, 2, 3, 4, 5, 6, 7, 10], [0, 1, 2, 3, 4, 5, 6, 7, 10, 11], [0, 1, 2, 3, 4, 5, 6, 7, 8, 9, 10, 11, 12], [0, 1, 2, 3, 4, 5, 6, 7, 8, 9, 10, 11, 12, 13], [0, 1, 2, 3, 4, 5, 6, 7, 8, 9, 10, 11, 12, 13, 14], [0, 1, 2, 3, 4, 5, 6, 7, 8, 9, 10, 11, 12, 13, 14, 15], [0, 1, 2, 3, 4, 5, 6, 7, 8, 9, 10, 11, 12, 13, 14, 15, 16], [0, 1, 2, 3, 4, 5, 6, 7, 8, 9, 10, 11, 12, 13, 14, 15], [0, 1, 2, 3, 4, 5, 6, 7, 8, 9, 10, 11, 12, 13, 14, 15, 18], [0, 1, 2, 3, 4, 5, 6, 7, 8, 9, 10, 11, 12, 13, 14, 15, 16, 17, 18, 19], [0, 1, 2, 3, 4, 5, 6, 7, 8, 9, 10, 11, 12, 13, 14, 15, 16, 17, 18, 19, 20], [0, 1, 2, 3, 4, 5, 6, 7, 8, 9, 10, 11, 12, 13, 14, 15, 16, 17, 18, 19, 20, 21], [0, 1, 2, 3, 4, 5, 6, 7, 8, 9, 10, 11, 12, 13, 14, 15], [0, 1, 2, 3, 4, 5, 6, 7, 8, 9, 10, 11, 12, 13, 14, 15, 23], [0, 1, 2, 3, 4, 5, 6, 7, 8, 9, 10, 11, 12, 13, 14, 15, 16, 17, 18, 19, 20, 21, 22, 23, 24], [0, 1, 2, 3, 4, 5, 6, 7, 8, 9, 10, 11, 12, 13, 14, 15, 16, 17, 18, 19, 20, 21, 22, 23, 24, 25], [0, 1, 2, 3, 4, 5, 6, 7, 8, 9, 10, 11, 12, 13, 14, 15, 16, 17, 18, 19, 20, 21, 22, 23, 24, 25, 26]] [(false, 0), (false, 1), (false, 2), (false, 3), (false, 4), (false, 5), (false, 6), (false, 7), (false, 8), (false, 9), (false, 10), (false, 11), (false, 12), (false, 13), (false, 14), (false, 15), (false, 16), (false, 17), (false, 18), (false, 19), (false, 20), (false, 21), (false, 22), (false, 23), (false, 24), (false, 25), (false, 26), (false, 27)] (by kernel_rfl) ?_
                          refine wp_val (.ptr (ix ids 6) g6 0 0) rfl rfl (pv_fa (fa_ptr (c := 0) (off := 0) (i := 0) ti63 rfl ti3 rfl)) ?_
                          refine wp_val (.int .i64 a17.Kind) rfl rfl (pv_load (ld_ptr hI rfl rfl rfl ti3 rfl)) ?_
                          refine wp_val (.bool (a17.Kind == 1)) rfl rfl (pv_bin rfl rfl rfl) ?_
                          refine wp_val (.bool (a17.Kind == 1)) rfl rfl pv_move ?_
                          refine op_iteb (fun hb22 => ?_) (fun hb22 => ?_)
                          · refine wp_valg (tj := 315) (.ptr (ix ids 6) g6 0 4) rfl rfl (congrArg AV.bool hb22) rfl (pv_fa (fa_ptr (c := 0) (off := 4) (i := 4) ti63 rfl ti3 rfl)) ?_
                            refine wp_valg (tj := 315) (.int .i64 a17.Airport) rfl rfl (congrArg AV.bool hb22) rfl (pv_load (ld_ptr hI rfl rfl rfl ti3 rfl)) ?_
                            refine wp_valg (tj := 315) (.bool (decide (a17.Airport < 0))) rfl rfl (congrArg AV.bool hb22) rfl (pv_bin rfl rfl rfl) ?_
                            refine wp_valg (tj := 315) (.bool (decide (a17.Airport < 0))) rfl rfl (congrArg AV.bool hb22) rfl pv_move ?_
                            refine op_iteb (fun hb23 => ?_) (fun hb23 => ?_)
                            · refine wp_not (tj := 319) (b := true) rfl rfl (congrArg AV.bool hb23) rfl rfl ?_
                              refine wp_not (tj := 319) (b := true) rfl rfl (congrArg AV.bool hb23) rfl rfl ?_
                              refine wp_not (tj := 319) (b := true) rfl rfl (congrArg AV.bool hb23) rfl rfl ?_
                              refine wp_not (tj := 319) (b := true) rfl rfl (congrArg AV.bool hb23) rfl rfl ?_
                              refine wp_not (tj := 319) (b := true) rfl rfl (congrArg AV.bool hb23) rfl rfl ?_
                              refine wp_not (tj := 319) (b := true) rfl rfl (congrArg AV.bool hb23) rfl rfl ?_
                              refine wp_valg (tj := 315) (.bool true) rfl rfl (congrArg AV.bool hb22) rfl (pv_pick (t := true) (congrArg AV.bool hb23) rfl) ?_
                              refine wp_valg (tj := 315) (.bool true) rfl rfl (congrArg AV.bool hb22) rfl pv_move ?_
                              refine wp_not (tj := 327) (b := true) rfl rfl rfl rfl rfl ?_
                              refine wp_not (tj := 327) (b := true) rfl rfl rfl rfl rfl ?_
                              refine wp_not (tj := 327) (b := true) rfl rfl rfl rfl rfl ?_
                              refine wp_not (tj := 327) (b := true) rfl rfl rfl rfl rfl ?_
                              refine wp_not (tj := 327) (b := true) rfl rfl rfl rfl rfl ?_
                              refine wp_not (tj := 327) (b := true) rfl rfl rfl rfl rfl ?_
                              refine wp_not (tj := 327) (b := true) rfl rfl rfl rfl rfl ?_
                              refine wp_not (tj := 327) (b := true) rfl rfl rfl rfl rfl ?_
                              refine wp_not (tj := 327) (b := true) rfl rfl rfl rfl rfl ?_
                              refine wp_not (tj := 327) (b := true) rfl rfl rfl rfl rfl ?_
                              refine wp_valg (tj := 315) (.bool true) rfl rfl (congrArg AV.bool hb22) rfl (pv_pick (t := true) rfl rfl) ?_
                              refine wp_val (.bool true) rfl rfl (pv_pick (t := true) (congrArg AV.bool hb22) rfl) ?_
                              refine wp_nil ?_
                              refine wr_drop [none, (some (.rows g1 8 [(rAirspace r2.1)])), none, none, none, none, none] hI rfl (.keep (.keep (.keep (.keep (.keep (.keep (.drop .nil))))))) ?_
                              refine wr_is [(3, (.ptr (ix ids 1) g1 0 0)), (273, (.sl 8 (List.map rRule r2.1.Rules))), (274, (.int .i64 (r2.1.Rules.length : Int))), (275, (.int .i64 (j7 : Int))), (339, (.bool true))] (.cons rfl (.cons rfl (.cons rfl (.cons rfl (.cons rfl .nil))))) ?_
                              refine hJ7 true _ _ ?_
                              exact ⟨rfl, rfl⟩
                            · refine wp_valg (tj := 319) (.ptr (ix ids 6) g6 0 4) rfl rfl (congrArg AV.bool hb23) rfl (pv_fa (fa_ptr (c := 0) (off := 4) (i := 4) ti63 rfl ti3 rfl)) ?_
                              refine wp_valg (tj := 319) (.int .i64 a17.Airport) rfl rfl (congrArg AV.bool hb23) rfl (pv_load (ld_ptr hI rfl rfl rfl ti3 rfl)) ?_
                              refine wp_valg (tj := 319) (.ptr (ix ids 1) g1 0 5) rfl rfl (congrArg AV.bool hb23) rfl (pv_fa (fa_ptr (c := 0) (off := 5) (i := 5) ti31 rfl ti27 rfl)) ?_
                              refine wp_valg (tj := 319) (.sl 2 (List.map rAirport r2.1.Airports)) rfl rfl (congrArg AV.bool hb23) rfl (pv_load (ld_ptr hI rfl rfl rfl ti27 rfl)) ?_
                              refine wp_valg (tj := 319) (.int .i64 (r2.1.Airports.length : Int)) rfl rfl (congrArg AV.bool hb23) rfl (pv_len (len_sl ti27)) ?_
                              refine wp_valg (tj := 319) (.bool (decide (a17.Airport ≥ (r2.1.Airports.length : Int)))) rfl rfl (congrArg AV.bool hb23) rfl (pv_bin rfl rfl rfl) ?_
                              refine wp_valg (tj := 315) (.bool (decide (a17.Airport ≥ (r2.1.Airports.length : Int)))) rfl rfl (congrArg AV.bool hb22) rfl (pv_pick (t := false) (congrArg AV.bool hb23) rfl) ?_
                              refine wp_valg (tj := 315) (.bool (decide (a17.Airport ≥ (r2.1.Airports.length : Int)))) rfl rfl (congrArg AV.bool hb22) rfl pv_move ?_
                              refine op_iteb (fun hb24 => ?_) (fun hb24 => ?_)
                              · refine wp_not (tj := 327) (b := true) rfl rfl (congrArg AV.bool hb24) rfl rfl ?_
                                refine wp_not (tj := 327) (b := true) rfl rfl (congrArg AV.bool hb24) rfl rfl ?_
                                refine wp_not (tj := 327) (b := true) rfl rfl (congrArg AV.bool hb24) rfl rfl ?_
                                refine wp_not (tj := 327) (b := true) rfl rfl (congrArg AV.bool hb24) rfl rfl ?_
                                refine wp_not (tj := 327) (b := true) rfl rfl (congrArg AV.bool hb24) rfl rfl ?_
                                refine wp_not (tj := 327) (b := true) rfl rfl (congrArg AV.bool hb24) rfl rfl ?_
                                refine wp_not (tj := 327) (b := true) rfl rfl (congrArg AV.bool hb24) rfl rfl ?_
                                refine wp_not (tj := 327) (b := true) rfl rfl (congrArg AV.bool hb24) rfl rfl ?_
                                refine wp_not (tj := 327) (b := true) rfl rfl (congrArg AV.bool hb24) rfl rfl ?_
                                refine wp_not (tj := 327) (b := true) rfl rfl (congrArg AV.bool hb24) rfl rfl ?_
                                refine wp_valg (tj := 315) (.bool true) rfl rfl (congrArg AV.bool hb22) rfl (pv_pick (t := true) (congrArg AV.bool hb24) rfl) ?_
                                refine wp_val (.bool true) rfl rfl (pv_pick (t := true) (congrArg AV.bool hb22) rfl) ?_
                                refine wp_nil ?_
                                refine wr_drop [none, (some (.rows g1 8 [(rAirspace r2.1)])), none, none, none, none, none] hI rfl (.keep (.keep (.keep (.keep (.keep (.keep (.drop .nil))))))) ?_
                                refine wr_is [(3, (.ptr (ix ids 1) g1 0 0)), (273, (.sl 8 (List.map rRule r2.1.Rules))), (274, (.int .i64 (r2.1.Rules.length : Int))), (275, (.int .i64 (j7 : Int))), (339, (.bool true))] (.cons rfl (.cons rfl (.cons rfl (.cons rfl (.cons rfl .nil))))) ?_
                                refine hJ7 true _ _ ?_
                                exact ⟨rfl, rfl⟩
                              · refine wp_valg (tj := 327) (.ptr (ix ids 1) g1 0 5) rfl rfl (congrArg AV.bool hb24) rfl (pv_fa (fa_ptr (c := 0) (off := 5) (i := 5) ti31 rfl ti27 rfl)) ?_
                                refine wp_valg (tj := 327) (.sl 2 (List.map rAirport r2.1.Airports)) rfl rfl (congrArg AV.bool hb24) rfl (pv_load (ld_ptr hI rfl rfl rfl ti27 rfl)) ?_
                                refine wp_valg (tj := 327) (.ptr (ix ids 6) g6 0 4) rfl rfl (congrArg AV.bool hb24) rfl (pv_fa (fa_ptr (c := 0) (off := 4) (i := 4) ti63 rfl ti3 rfl)) ?_
                                refine wp_valg (tj := 327) (.int .i64 a17.Airport) rfl rfl (congrArg AV.bool hb24) rfl (pv_load (ld_ptr hI rfl rfl rfl ti3 rfl)) ?_
                                refine op_idx fun a19 hz10 hx11 => ?_
                                refine wp_valg (tj := 327) (.cp (rAirport a19) 0) rfl rfl (congrArg AV.bool hb24) rfl (pv_ixa (ixa_sl ti27 ti46 rfl hz10 hx11)) ?_
                                refine wp_valg (tj := 327) (.cp (rAirport a19) 0) rfl rfl (congrArg AV.bool hb24) rfl (pv_fa (fa_cp (c := 0) (off := 0) (i := 0) ti46 rfl ti9 rfl)) ?_
                                refine wp_valg (tj := 327) (.str a19.Name) rfl rfl (congrArg AV.bool hb24) rfl (pv_load (ld_cp ti9 rfl)) ?_
                                refine wp_valg (tj := 327) (.ptr (ix ids 6) g6 0 2) rfl rfl (congrArg AV.bool hb24) rfl (pv_fa (fa_ptr (c := 0) (off := 2) (i := 2) ti63 rfl ti9 rfl)) ?_
                                refine wp_valg (tj := 327) (.str a17.A) rfl rfl (congrArg AV.bool hb24) rfl (pv_load (ld_ptr hI rfl rfl rfl ti9 rfl)) ?_
                                refine wp_valg (tj := 327) (.bool (!(a19.Name == a17.A))) rfl rfl (congrArg AV.bool hb24) rfl (pv_bin rfl rfl rfl) ?_
                                refine wp_valg (tj := 315) (.bool (!(a19.Name == a17.A))) rfl rfl (congrArg AV.bool hb22) rfl (pv_pick (t := false) (congrArg AV.bool hb24) rfl) ?_
                                refine wp_val (.bool (!(a19.Name == a17.A))) rfl rfl (pv_pick (t := true) (congrArg AV.bool hb22) rfl) ?_
                                refine wp_nil ?_
                                refine wr_drop [none, (some (.rows g1 8 [(rAirspace r2.1)])), none, none, none, none, none] hI rfl (.keep (.keep (.keep (.keep (.keep (.keep (.drop .nil))))))) ?_
                                refine wr_is [(3, (.ptr (ix ids 1) g1 0 0)), (273, (.sl 8 (List.map rRule r2.1.Rules))), (274, (.int .i64 (r2.1.Rules.length : Int))), (275, (.int .i64 (j7 : Int))), (339, (.bool (!(a19.Name == a17.A))))] (.cons rfl (.cons rfl (.cons rfl (.cons rfl (.cons rfl .nil))))) ?_
                                refine hJ7 (!(a19.Name == a17.A)) _ _ ?_
                                exact ⟨rfl, rfl⟩
                          · refine wp_not (tj := 315) (b := false) rfl rfl (congrArg AV.bool hb22) rfl rfl ?_
                            refine wp_not (tj := 315) (b := false) rfl rfl (congrArg AV.bool hb22) rfl rfl ?_
                            refine wp_not (tj := 315) (b := false) rfl rfl (congrArg AV.bool hb22) rfl rfl ?_
                            refine wp_not (tj := 315) (b := false) rfl rfl (congrArg AV.bool hb22) rfl rfl ?_
                            refine wp_notu (tj := 319) rfl rfl rfl rfl ?_
                            refine wp_notu (tj := 319) rfl rfl rfl rfl ?_
                            refine wp_notu (tj := 319) rfl rfl rfl rfl ?_
                            refine wp_notu (tj := 319) rfl rfl rfl rfl ?_
                            refine wp_notu (tj := 319) rfl rfl rfl rfl ?_
                            refine wp_notu (tj := 319) rfl rfl rfl rfl ?_
                            refine wp_not (tj := 315) (b := false) rfl rfl (congrArg AV.bool hb22) rfl rfl ?_
                            refine wp_not (tj := 315) (b := false) rfl rfl (congrArg AV.bool hb22) rfl rfl ?_
                            refine wp_notu (tj := 327) rfl rfl rfl rfl ?_
                            refine wp_notu (tj := 327) rfl rfl rfl rfl ?_
                            refine wp_notu (tj := 327) rfl rfl rfl rfl ?_
                            refine wp_notu (tj := 327) rfl rfl rfl rfl ?_
                            refine wp_notu (tj := 327) rfl rfl rfl rfl ?_
                            refine wp_notu (tj := 327) rfl rfl rfl rfl ?_
                            refine wp_notu (tj := 327) rfl rfl rfl rfl ?_
                            refine wp_notu (tj := 327) rfl rfl rfl rfl ?_
                            refine wp_notu (tj := 327) rfl rfl rfl rfl ?_
                            refine wp_notu (tj := 327) rfl rfl rfl rfl ?_
                            refine wp_not (tj := 315) (b := false) rfl rfl (congrArg AV.bool hb22) rfl rfl ?_
                            refine wp_val (.bool false) rfl rfl (pv_pick (t := false) (congrArg AV.bool hb22) rfl) ?_
                            refine wp_nil ?_
                            refine wr_drop [none, (some (.rows g1 8 [(rAirspace r2.1)])), none, none, none, none, none] hI rfl (.keep (.keep (.keep (.keep (.keep (.keep (.drop .nil))))))) ?_
                            refine wr_is [(3, (.ptr (ix ids 1) g1 0 0)), (273, (.sl 8 (List.map rRule r2.1.Rules))), (274, (.int .i64 (r2.1.Rules.length : Int))), (275, (.int .i64 (j7 : Int))), (339, (.bool false))] (.cons rfl (.cons rfl (.cons rfl (.cons rfl (.cons rfl .nil))))) ?_
                            refine hJ7 false _ _ ?_
                            exact ⟨rfl, rfl⟩
                    · refine wr_draw hmix [[], [0], [0, 1], [0, 1, 2], [0, 1, 2, 3], [0, 1, 2, 3, 4], [0, 1, 2, 3], [0, 1, 2, 3, 6], [0, 1, 2, 3, 6, 7], [0, 1, 2, 3, 4, 5, 6, 7, 8], [0, 1, 2, 3, 4, 5, 6, 7, 8, 9], [0, 1, 2, 3, 4, 5, 6, 7, 8, 9, 10], [0, 1, 2, 3, 4, 5, 6, 7, 8, 9, 10, 11], [0, 1, 2, 3, 4, 5, 6, 7, 8, 9, 10, 11, 12], [0, 1, 2, 3, 4, 5, 6, 7, 8, 9, 10, 11], [0, 1, 2, 3, 4, 5, 6, 7, 8, 9, 10, 11, 14], [0, 1, 2, 3, 4, 5, 6, 7, 8, 9, 10, 11, 12, 13, 14, 15], [0, 1, 2, 3, 4, 5, 6, 7, 8, 9, 10, 11, 12, 13, 14, 15, 16], [0, 1, 2, 3, 4, 5, 6, 7, 8, 9, 10, 11, 12, 13, 14, 15, 16, 17], [0, 1, 2, 3, 4, 5, 6, 7, 8, 9, 10, 11], [0, 1, 2, 3, 4, 5, 6, 7, 8, 9, 10, 11, 19], [0, 1, 2, 3, 4, 5, 6, 7, 8, 9, 10, 11, 12, 13, 14, 15, 16, 17, 18, 19, 20], [0, 1, 2, 3, 4, 5, 6, 7, 8, 9, 10, 11, 12, 13, 14, 15, 16, 17, 18, 19, 20, 21], [0, 1, 2, 3, 4, 5, 6, 7, 8, 9, 10, 11, 12, 13, 14, 15, 16, 17, 18, 19, 20, 21, 22], [0, 1, 2, 3, 4, 5, 6, 7, 8, 9, 10, 11, 12, 13, 14, 15, 16, 17, 18, 19, 20, 21, 22, 23], [0, 1, 2, 3, 4, 5, 6, 7, 8, 9, 10, 11, 12, 13, 14, 15, 16, 17, 18, 19, 20, 21, 22, 23, 24], [0, 1, 2, 3, 4, 5, 6, 7, 8, 9, 10, 11, 12, 13, 14, 15, 16, 17, 18, 19, 20, 21, 22, 23, 24, 25], [0, 1, 2, 3, 4, 5, 6, 7, 8, 9, 10, 11, 12, 13, 14, 15, 16, 17, 18, 19, 20, 21, 22, 23, 24, 25, 26], [0, 1, 2, 3, 4, 5, 6, 7, 8, 9, 10, 11, 12, 13, 14, 15, 16, 17, 18, 19, 20, 21, 22, 23, 24, 25, 26, 27], [0, 1, 2, 3, 4, 5, 6, 7, 8, 9, 10, 11, 12, 13, 14, 15, 16, 17, 18, 19, 20, 21, 22, 23, 24, 25, 26, 27, 28], [0, 1, 2, 3, 4, 5, 6, 7, 8, 9, 10, 11, 12, 13, 14, 15, 16, 17, 18, 19, 20, 21, 22, 23, 24, 25, 26, 27, 28, 29], [0, 1, 2, 3, 4, 5, 6, 7, 8, 9, 10, 11, 12, 13, 14, 15, 16, 17, 18, 19, 20, 21, 22, 23, 24, 25, 26, 27, 28, 29, 30], [0, 1, 2, 3, 4, 5, 6, 7, 8, 9, 10, 11, 12, 13, 14, 15, 16, 17, 18, 19, 20, 21, 22, 23, 24, 25, 26, 27, 28, 29, 30, 31]] [(false, 0), (false, 1), (false, 2), (false, 3), (false, 4), (false, 5), (false, 6), (false, 7), (false, 8), (false, 9), (false, 10), (false, 11), (false, 12), (false, 13), (false, 14), (false, 15), (false, 16), (false, 17), (false, 18), (false, 19), (false, 20), (false, 21), (false, 22), (false, 23), (false, 24), (false, 25), (false, 26), (false, 27), (false, 28), (false, 29), (false, 30), (false, 31), (false, 32)] (by kernel_rfl) ?_
                      refine wp_val (.ptr (ix ids 6) g6 0 3) rfl rfl (pv_fa (fa_ptr (c := 0) (off := 3) (i := 3) ti63 rfl ti3 rfl)) ?_
                      refine wp_val (.int .i64 a17.Class) rfl rfl (pv_load (ld_ptr hI rfl rfl rfl ti3 rfl)) ?_
                      refine wp_val (.bool (decide (a17.Class < 0))) rfl rfl (pv_bin rfl rfl rfl) ?_
                      refine wp_val (.bool (decide (a17.Class < 0))) rfl rfl pv_move ?_
                      refine op_iteb (fun hb18 => ?_) (fun hb18 => ?_)
                      · refine wp_not (tj := 282) (b := true) rfl rfl (congrArg AV.bool hb18) rfl rfl ?_
                        refine wp_not (tj := 282) (b := true) rfl rfl (congrArg AV.bool hb18) rfl rfl ?_
                        refine wp_not (tj := 282) (b := true) rfl rfl (congrArg AV.bool hb18) rfl rfl ?_
                        refine wp_not (tj := 282) (b := true) rfl rfl (congrArg AV.bool hb18) rfl rfl ?_
                        refine wp_not (tj := 282) (b := true) rfl rfl (congrArg AV.bool hb18) rfl rfl ?_
                        refine wp_not (tj := 282) (b := true) rfl rfl (congrArg AV.bool hb18) rfl rfl ?_
                        refine wp_val (.bool true) rfl rfl (pv_pick (t := true) (congrArg AV.bool hb18) rfl) ?_
                        refine wp_val (.bool true) rfl rfl pv_move ?_
                        refine wp_not (tj := 290) (b := true) rfl rfl rfl rfl rfl ?_
                        refine wp_not (tj := 290) (b := true) rfl rfl rfl rfl rfl ?_
                        refine wp_not (tj := 290) (b := true) rfl rfl rfl rfl rfl ?_
                        refine wp_not (tj := 290) (b := true) rfl rfl rfl rfl rfl ?_
                        refine wp_not (tj := 290) (b := true) rfl rfl rfl rfl rfl ?_
                        refine wp_not (tj := 290) (b := true) rfl rfl rfl rfl rfl ?_
                        refine wp_not (tj := 290) (b := true) rfl rfl rfl rfl rfl ?_
                        refine wp_not (tj := 290) (b := true) rfl rfl rfl rfl rfl ?_
                        refine wp_not (tj := 290) (b := true) rfl rfl rfl rfl rfl ?_
                        refine wp_not (tj := 290) (b := true) rfl rfl rfl rfl rfl ?_
                        refine wp_val (.bool true) rfl rfl (pv_pick (t := true) rfl rfl) ?_
                        refine wp_val (.bool true) rfl rfl pv_move ?_
                        refine wp_not (tj := 302) (b := true) rfl rfl rfl rfl rfl ?_
                        refine wp_not (tj := 302) (b := true) rfl rfl rfl rfl rfl ?_
                        refine wp_not (tj := 302) (b := true) rfl rfl rfl rfl rfl ?_
                        refine wp_not (tj := 302) (b := true) rfl rfl rfl rfl rfl ?_
                        refine wp_notu (tj := 306) rfl rfl rfl rfl ?_
                        refine wp_notu (tj := 306) rfl rfl rfl rfl ?_
                        refine wp_notu (tj := 306) rfl rfl rfl rfl ?_
                        refine wp_not (tj := 302) (b := true) rfl rfl rfl rfl rfl ?_
                        refine wp_val (.bool true) rfl rfl (pv_pick (t := true) rfl rfl) ?_
                        refine wp_nil ?_
                        refine wr_is [(3, (.ptr (ix ids 1) g1 0 0)), (20, (.ptr (ix ids 6) g6 0 0)), (273, (.sl 8 (List.map rRule r2.1.Rules))), (274, (.int .i64 (r2.1.Rules.length : Int))), (275, (.int .i64 (j7 : Int))), (311, (.bool true))] (.cons rfl (.cons rfl (.cons rfl (.cons rfl (.cons rfl (.cons rfl .nil)))))) ?_
                        refine hJ8 true _ _ ?_
                        exact ⟨rfl, rfl⟩
                      · refine wp_valg (tj := 282) (.ptr (ix ids 6) g6 0 3) rfl rfl (congrArg AV.bool hb18) rfl (pv_fa (fa_ptr (c := 0) (off := 3) (i := 3) ti63 rfl ti3 rfl)) ?_
                        refine wp_valg (tj := 282) (.int .i64 a17.Class) rfl rfl (congrArg AV.bool hb18) rfl (pv_load (ld_ptr hI rfl rfl rfl ti3 rfl)) ?_
                        refine wp_valg (tj := 282) (.ptr (ix ids 1) g1 0 6) rfl rfl (congrArg AV.bool hb18) rfl (pv_fa (fa_ptr (c := 0) (off := 6) (i := 6) ti31 rfl ti28 rfl)) ?_
                        refine wp_valg (tj := 282) (.sl 4 (List.map rClass r2.1.Classes)) rfl rfl (congrArg AV.bool hb18) rfl (pv_load (ld_ptr hI rfl rfl rfl ti28 rfl)) ?_
                        refine wp_valg (tj := 282) (.int .i64 (r2.1.Classes.length : Int)) rfl rfl (congrArg AV.bool hb18) rfl (pv_len (len_sl ti28)) ?_
                        refine wp_valg (tj := 282) (.bool (decide (a17.Class ≥ (r2.1.Classes.length : Int)))) rfl rfl (congrArg AV.bool hb18) rfl (pv_bin rfl rfl rfl) ?_
                        refine wp_val (.bool (decide (a17.Class ≥ (r2.1.Classes.length : Int)))) rfl rfl (pv_pick (t := false) (congrArg AV.bool hb18) rfl) ?_
                        refine wp_val (.bool (decide (a17.Class ≥ (r2.1.Classes.length : Int)))) rfl rfl pv_move ?_
                        refine op_iteb (fun hb19 => ?_) (fun hb19 => ?_)
                        · refine wp_not (tj := 290) (b := true) rfl rfl (congrArg AV.bool hb19) rfl rfl ?_
                          refine wp_not (tj := 290) (b := true) rfl rfl (congrArg AV.bool hb19) rfl rfl ?_
                          refine wp_not (tj := 290) (b := true) rfl rfl (congrArg AV.bool hb19) rfl rfl ?_
                          refine wp_not (tj := 290) (b := true) rfl rfl (congrArg AV.bool hb19) rfl rfl ?_
                          refine wp_not (tj := 290) (b := true) rfl rfl (congrArg AV.bool hb19) rfl rfl ?_
                          refine wp_not (tj := 290) (b := true) rfl rfl (congrArg AV.bool hb19) rfl rfl ?_
                          refine wp_not (tj := 290) (b := true) rfl rfl (congrArg AV.bool hb19) rfl rfl ?_
                          refine wp_not (tj := 290) (b := true) rfl rfl (congrArg AV.bool hb19) rfl rfl ?_
                          refine wp_not (tj := 290) (b := true) rfl rfl (congrArg AV.bool hb19) rfl rfl ?_
                          refine wp_not (tj := 290) (b := true) rfl rfl (congrArg AV.bool hb19) rfl rfl ?_
                          refine wp_val (.bool true) rfl rfl (pv_pick (t := true) (congrArg AV.bool hb19) rfl) ?_
                          refine wp_val (.bool true) rfl rfl pv_move ?_
                          refine wp_not (tj := 302) (b := true) rfl rfl rfl rfl rfl ?_
                          refine wp_not (tj := 302) (b := true) rfl rfl rfl rfl rfl ?_
                          refine wp_not (tj := 302) (b := true) rfl rfl rfl rfl rfl ?_
                          refine wp_not (tj := 302) (b := true) rfl rfl rfl rfl rfl ?_
                          refine wp_notu (tj := 306) rfl rfl rfl rfl ?_
                          refine wp_notu (tj := 306) rfl rfl rfl rfl ?_
                          refine wp_notu (tj := 306) rfl rfl rfl rfl ?_
                          refine wp_not (tj := 302) (b := true) rfl rfl rfl rfl rfl ?_
                          refine wp_val (.bool true) rfl rfl (pv_pick (t := true) rfl rfl) ?_
                          refine wp_nil ?_
                          refine wr_is [(3, (.ptr (ix ids 1) g1 0 0)), (20, (.ptr (ix ids 6) g6 0 0)), (273, (.sl 8 (List.map rRule r2.1.Rules))), (274, (.int .i64 (r2.1.Rules.length : Int))), (275, (.int .i64 (j7 : Int))), (311, (.bool true))] (.cons rfl (.cons rfl (.cons rfl (.cons rfl (.cons rfl (.cons rfl .nil)))))) ?_
                          refine hJ8 true _ _ ?_
                          exact ⟨rfl, rfl⟩
                        · refine wp_valg (tj := 290) (.ptr (ix ids 1) g1 0 6) rfl rfl (congrArg AV.bool hb19) rfl (pv_fa (fa_ptr (c := 0) (off := 6) (i := 6) ti31 rfl ti28 rfl)) ?_
                          refine wp_valg (tj := 290) (.sl 4 (List.map rClass r2.1.Classes)) rfl rfl (congrArg AV.bool hb19) rfl (pv_load (ld_ptr hI rfl rfl rfl ti28 rfl)) ?_
                          refine wp_valg (tj := 290) (.ptr (ix ids 6) g6 0 3) rfl rfl (congrArg AV.bool hb19) rfl (pv_fa (fa_ptr (c := 0) (off := 3) (i := 3) ti63 rfl ti3 rfl)) ?_
                          refine wp_valg (tj := 290) (.int .i64 a17.Class) rfl rfl (congrArg AV.bool hb19) rfl (pv_load (ld_ptr hI rfl rfl rfl ti3 rfl)) ?_
                          refine op_idx fun a18 hz9 hx10 => ?_
                          refine wp_valg (tj := 290) (.cp (rClass a18) 0) rfl rfl (congrArg AV.bool hb19) rfl (pv_ixa (ixa_sl ti28 ti43 rfl hz9 hx10)) ?_
                          refine wp_valg (tj := 290) (.cp (rClass a18) 0) rfl rfl (congrArg AV.bool hb19) rfl (pv_fa (fa_cp (c := 0) (off := 0) (i := 0) ti43 rfl ti9 rfl)) ?_
                          refine wp_valg (tj := 290) (.str a18.Name) rfl rfl (congrArg AV.bool hb19) rfl (pv_load (ld_cp ti9 rfl)) ?_
                          refine wp_valg (tj := 290) (.ptr (ix ids 6) g6 0 1) rfl rfl (congrArg AV.bool hb19) rfl (pv_fa (fa_ptr (c := 0) (off := 1) (i := 1) ti63 rfl ti9 rfl)) ?_
                          refine wp_valg (tj := 290) (.str a17.C) rfl rfl (congrArg AV.bool hb19) rfl (pv_load (ld_ptr hI rfl rfl rfl ti9 rfl)) ?_
                          refine wp_valg (tj := 290) (.bool (!(a18.Name == a17.C))) rfl rfl (congrArg AV.bool hb19) rfl (pv_bin rfl rfl rfl) ?_
                          refine wp_val (.bool (!(a18.Name == a17.C))) rfl rfl (pv_pick (t := false) (congrArg AV.bool hb19) rfl) ?_
                          refine wp_val (.bool (!(a18.Name == a17.C))) rfl rfl pv_move ?_
                          refine op_iteb (fun hb20 => ?_) (fun hb20 => ?_)
                          · refine wp_not (tj := 302) (b := true) rfl rfl (congrArg AV.bool hb20) rfl rfl ?_
                            refine wp_not (tj := 302) (b := true) rfl rfl (congrArg AV.bool hb20) rfl rfl ?_
                            refine wp_not (tj := 302) (b := true) rfl rfl (congrArg AV.bool hb20) rfl rfl ?_
                            refine wp_not (tj := 302) (b := true) rfl rfl (congrArg AV.bool hb20) rfl rfl ?_
                            refine wp_notu (tj := 306) rfl rfl rfl rfl ?_
                            refine wp_notu (tj := 306) rfl rfl rfl rfl ?_
                            refine wp_notu (tj := 306) rfl rfl rfl rfl ?_
                            refine wp_not (tj := 302) (b := true) rfl rfl (congrArg AV.bool hb20) rfl rfl ?_
                            refine wp_val (.bool true) rfl rfl (pv_pick (t := true) (congrArg AV.bool hb20) rfl) ?_
                            refine wp_nil ?_
                            refine wr_is [(3, (.ptr (ix ids 1) g1 0 0)), (20, (.ptr (ix ids 6) g6 0 0)), (273, (.sl 8 (List.map rRule r2.1.Rules))), (274, (.int .i64 (r2.1.Rules.length : Int))), (275, (.int .i64 (j7 : Int))), (311, (.bool true))] (.cons rfl (.cons rfl (.cons rfl (.cons rfl (.cons rfl (.cons rfl .nil)))))) ?_
                            refine hJ8 true _ _ ?_
                            exact ⟨rfl, rfl⟩
                          · refine wp_valg (tj := 302) (.ptr (ix ids 6) g6 0 0) rfl rfl (congrArg AV.bool hb20) rfl (pv_fa (fa_ptr (c := 0) (off := 0) (i := 0) ti63 rfl ti3 rfl)) ?_
                            refine wp_valg (tj := 302) (.int .i64 a17.Kind) rfl rfl (congrArg AV.bool hb20) rfl (pv_load (ld_ptr hI rfl rfl rfl ti3 rfl)) ?_
                            refine wp_valg (tj := 302) (.bool (a17.Kind != 1)) rfl rfl (congrArg AV.bool hb20) rfl (pv_bin rfl rfl rfl) ?_
                            refine wp_valg (tj := 302) (.bool (a17.Kind != 1)) rfl rfl (congrArg AV.bool hb20) rfl pv_move ?_
                            refine op_iteb (fun hb21 => ?_) (fun hb21 => ?_)
                            · refine wp_valg (tj := 306) (.ptr (ix ids 6) g6 0 4) rfl rfl (congrArg AV.bool hb21) rfl (pv_fa (fa_ptr (c := 0) (off := 4) (i := 4) ti63 rfl ti3 rfl)) ?_
                              refine wp_valg (tj := 306) (.int .i64 a17.Airport) rfl rfl (congrArg AV.bool hb21) rfl (pv_load (ld_ptr hI rfl rfl rfl ti3 rfl)) ?_
                              refine wp_valg (tj := 306) (.bool (a17.Airport != 0)) rfl rfl (congrArg AV.bool hb21) rfl (pv_bin rfl rfl rfl) ?_
                              refine wp_valg (tj := 302) (.bool (a17.Airport != 0)) rfl rfl (congrArg AV.bool hb20) rfl (pv_pick (t := true) (congrArg AV.bool hb21) rfl) ?_
                              refine wp_val (.bool (a17.Airport != 0)) rfl rfl (pv_pick (t := false) (congrArg AV.bool hb20) rfl) ?_
                              refine wp_nil ?_
                              refine wr_is [(3, (.ptr (ix ids 1) g1 0 0)), (20, (.ptr (ix ids 6) g6 0 0)), (273, (.sl 8 (List.map rRule r2.1.Rules))), (274, (.int .i64 (r2.1.Rules.length : Int))), (275, (.int .i64 (j7 : Int))), (311, (.bool (a17.Airport != 0)))] (.cons rfl (.cons rfl (.cons rfl (.cons rfl (.cons rfl (.cons rfl .nil)))))) ?_
                              refine hJ8 (a17.Airport != 0) _ _ ?_
                              exact ⟨rfl, rfl⟩
                            · refine wp_not (tj := 306) (b := false) rfl rfl (congrArg AV.bool hb21) rfl rfl ?_
                              refine wp_not (tj := 306) (b := false) rfl rfl (congrArg AV.bool hb21) rfl rfl ?_
                              refine wp_not (tj := 306) (b := false) rfl rfl (congrArg AV.bool hb21) rfl rfl ?_
                              refine wp_valg (tj := 302) (.bool false) rfl rfl (congrArg AV.bool hb20) rfl (pv_pick (t := false) (congrArg AV.bool hb21) rfl) ?_
                              refine wp_val (.bool false) rfl rfl (pv_pick (t := false) (congrArg AV.bool hb20) rfl) ?_
                              refine wp_nil ?_
                              refine wr_is [(3, (.ptr (ix ids 1) g1 0 0)), (20, (.ptr (ix ids 6) g6 0 0)), (273, (.sl 8 (List.map rRule r2.1.Rules))), (274, (.int .i64 (r2.1.Rules.length : Int))), (275, (.int .i64 (j7 : Int))), (311, (.bool false))] (.cons rfl (.cons rfl (.cons rfl (.cons rfl (.cons rfl (.cons rfl .nil)))))) ?_
                              refine hJ8 false _ _ ?_
                              exact ⟨rfl, rfl⟩
                  · rintro _ fr h ⟨rfl, rfl⟩
                    refine wr_mod (alt_inl _ _ _) ?_
                    refine wr_seq ?_
                    refine wr_region ?_
                    refine wo_val (.bool (decide ((r2.1.Rules.length : Int) < (r2.1.Rules.length : Int)))) rfl (pv_bin rfl rfl rfl) ?_
                    refine wo_nil ?_
                    refine wr_seq ?_
                    refine wr_condF rfl (Int.lt_irrefl _) ?_
                    refine wr_exit rfl ?_
                    refine wr_seq ?_
                    refine wr_region ?_
                    refine wo_val (.bool true) rfl pv_assign ?_
                    refine wo_nil ?_
                    exact wr_ret (a := true) (vs := [(.bool true)]) Try.func5 hI rfl (.same _)
        · refine wr_seq ?_
          refine wr_region ?_
          refine wo_val (.bool false) rfl pv_assign ?_
          refine wo_nil ?_
          exact wr_ret (a := false) (vs := [(.bool false)]) Try.func5 hI rfl (.same _)
    · refine wr_seq ?_
      refine wr_region ?_
      refine wo_val (.bool true) rfl pv_assign ?_
      refine wo_nil ?_
      exact wr_ret (a := true) (vs := [(.bool true)]) Try.func5 hI rfl (.same _)
  · refine wr_seq ?_
    refine wr_region ?_
    refine wo_val (.bool false) rfl pv_assign ?_
    refine wo_nil ?_
    exact wr_ret (a := false) (vs := [(.bool false)]) Try.func5 hI rfl (.same _)
end Go.Am

/- The models hold of the program. Written by dc.py. -/
import Derived.Test.YtjpafocobkhciaaNmW1
namespace Go.Am
open Go Go.Proofs
set_option maxRecDepth 100000
set_option linter.unusedSimpArgs false
set_option linter.unusedVariables false
theorem cp_ref09_Few (a : Airspace) : CP Try.prog 11 [(.agg (rAirspace a))] (ref09_Few a) (fun (x : Bool) => (AV.bool x)) := by
  refine cp_intro (n := 107) 1 Try.func11 rfl (by decide) rfl rfl fun h0 ids hI => ?_
  refine wr_in (wr_mod (ref09_Few.eq_1 _) ?_)
  refine wr_seq ?_
  refine wr_region ?_
  refine wo_box (v := (.agg (rAirspace a))) (j := 0) hI rfl rfl rfl rfl rfl rfl rfl fun g => ?_
  refine wo_val (.bool false) rfl pv_assign ?_
  refine wo_nil ?_
  refine wr_hp [(some (.rows g 8 [(rAirspace a)]))] rfl ?_
  refine wr_seq ?_
  refine wr_region ?_
  refine wo_val (.ptr (ix ids 0) g 0 0) rfl (pv_fa (fa_ptr (c := 0) (off := 0) (i := 0) ti31 rfl ti22 rfl)) ?_
  refine wo_val (.sl 2 (List.map rVolume a.Volumes)) rfl (pv_load (ld_ptr hI rfl rfl rfl ti22 rfl)) ?_
  refine wo_val (.int .i64 (a.Volumes.length : Int)) rfl (pv_len (len_sl ti22)) ?_
  refine wo_val (.ptr (ix ids 0) g 0 1) rfl (pv_fa (fa_ptr (c := 0) (off := 1) (i := 1) ti31 rfl ti23 rfl)) ?_
  refine wo_val (.sl 5 (List.map rSector a.Sectors)) rfl (pv_load (ld_ptr hI rfl rfl rfl ti23 rfl)) ?_
  refine wo_val (.int .i64 (a.Sectors.length : Int)) rfl (pv_len (len_sl ti23)) ?_
  refine wo_val (.int .i64 (IntKind.wrap .i64 ((a.Volumes.length : Int) + (a.Sectors.length : Int)))) rfl (pv_bin rfl rfl rfl) ?_
  refine wo_val (.ptr (ix ids 0) g 0 2) rfl (pv_fa (fa_ptr (c := 0) (off := 2) (i := 2) ti31 rfl ti24 rfl)) ?_
  refine wo_val (.sl 3 (List.map rConfig a.Configs)) rfl (pv_load (ld_ptr hI rfl rfl rfl ti24 rfl)) ?_
  refine wo_val (.int .i64 (a.Configs.length : Int)) rfl (pv_len (len_sl ti24)) ?_
  refine wo_val (.int .i64 (IntKind.wrap .i64 ((IntKind.wrap .i64 ((a.Volumes.length : Int) + (a.Sectors.length : Int))) + (a.Configs.length : Int)))) rfl (pv_bin rfl rfl rfl) ?_
  refine wo_val (.ptr (ix ids 0) g 0 3) rfl (pv_fa (fa_ptr (c := 0) (off := 3) (i := 3) ti31 rfl ti25 rfl)) ?_
  refine wo_val (.sl 5 (List.map rSegment a.Segments)) rfl (pv_load (ld_ptr hI rfl rfl rfl ti25 rfl)) ?_
  refine wo_val (.int .i64 (a.Segments.length : Int)) rfl (pv_len (len_sl ti25)) ?_
  refine wo_val (.int .i64 (IntKind.wrap .i64 ((IntKind.wrap .i64 ((IntKind.wrap .i64 ((a.Volumes.length : Int) + (a.Sectors.length : Int))) + (a.Configs.length : Int))) + (a.Segments.length : Int)))) rfl (pv_bin rfl rfl rfl) ?_
  refine wo_val (.ptr (ix ids 0) g 0 4) rfl (pv_fa (fa_ptr (c := 0) (off := 4) (i := 4) ti31 rfl ti26 rfl)) ?_
  refine wo_val (.sl 7 (List.map rRoute a.Routes)) rfl (pv_load (ld_ptr hI rfl rfl rfl ti26 rfl)) ?_
  refine wo_val (.int .i64 (a.Routes.length : Int)) rfl (pv_len (len_sl ti26)) ?_
  refine wo_val (.int .i64 (IntKind.wrap .i64 ((IntKind.wrap .i64 ((IntKind.wrap .i64 ((IntKind.wrap .i64 ((a.Volumes.length : Int) + (a.Sectors.length : Int))) + (a.Configs.length : Int))) + (a.Segments.length : Int))) + (a.Routes.length : Int)))) rfl (pv_bin rfl rfl rfl) ?_
  refine wo_val (.ptr (ix ids 0) g 0 5) rfl (pv_fa (fa_ptr (c := 0) (off := 5) (i := 5) ti31 rfl ti27 rfl)) ?_
  refine wo_val (.sl 2 (List.map rAirport a.Airports)) rfl (pv_load (ld_ptr hI rfl rfl rfl ti27 rfl)) ?_
  refine wo_val (.int .i64 (a.Airports.length : Int)) rfl (pv_len (len_sl ti27)) ?_
  refine wo_val (.int .i64 (IntKind.wrap .i64 ((IntKind.wrap .i64 ((IntKind.wrap .i64 ((IntKind.wrap .i64 ((IntKind.wrap .i64 ((a.Volumes.length : Int) + (a.Sectors.length : Int))) + (a.Configs.length : Int))) + (a.Segments.length : Int))) + (a.Routes.length : Int))) + (a.Airports.length : Int)))) rfl (pv_bin rfl rfl rfl) ?_
  refine wo_val (.ptr (ix ids 0) g 0 6) rfl (pv_fa (fa_ptr (c := 0) (off := 6) (i := 6) ti31 rfl ti28 rfl)) ?_
  refine wo_val (.sl 4 (List.map rClass a.Classes)) rfl (pv_load (ld_ptr hI rfl rfl rfl ti28 rfl)) ?_
  refine wo_val (.int .i64 (a.Classes.length : Int)) rfl (pv_len (len_sl ti28)) ?_
  refine wo_val (.int .i64 (IntKind.wrap .i64 ((IntKind.wrap .i64 ((IntKind.wrap .i64 ((IntKind.wrap .i64 ((IntKind.wrap .i64 ((IntKind.wrap .i64 ((a.Volumes.length : Int) + (a.Sectors.length : Int))) + (a.Configs.length : Int))) + (a.Segments.length : Int))) + (a.Routes.length : Int))) + (a.Airports.length : Int))) + (a.Classes.length : Int)))) rfl (pv_bin rfl rfl rfl) ?_
  refine wo_val (.ptr (ix ids 0) g 0 7) rfl (pv_fa (fa_ptr (c := 0) (off := 7) (i := 7) ti31 rfl ti29 rfl)) ?_
  refine wo_val (.sl 8 (List.map rRule a.Rules)) rfl (pv_load (ld_ptr hI rfl rfl rfl ti29 rfl)) ?_
  refine wo_val (.int .i64 (a.Rules.length : Int)) rfl (pv_len (len_sl ti29)) ?_
  refine wo_val (.int .i64 (IntKind.wrap .i64 ((IntKind.wrap .i64 ((IntKind.wrap .i64 ((IntKind.wrap .i64 ((IntKind.wrap .i64 ((IntKind.wrap .i64 ((IntKind.wrap .i64 ((a.Volumes.length : Int) + (a.Sectors.length : Int))) + (a.Configs.length : Int))) + (a.Segments.length : Int))) + (a.Routes.length : Int))) + (a.Airports.length : Int))) + (a.Classes.length : Int))) + (a.Rules.length : Int)))) rfl (pv_bin rfl rfl rfl) ?_
  refine wo_val (.int .i64 (IntKind.wrap .i64 ((IntKind.wrap .i64 ((IntKind.wrap .i64 ((IntKind.wrap .i64 ((IntKind.wrap .i64 ((IntKind.wrap .i64 ((IntKind.wrap .i64 ((a.Volumes.length : Int) + (a.Sectors.length : Int))) + (a.Configs.length : Int))) + (a.Segments.length : Int))) + (a.Routes.length : Int))) + (a.Airports.length : Int))) + (a.Classes.length : Int))) + (a.Rules.length : Int)))) rfl pv_assign ?_
  refine wo_nil ?_
  refine wr_seq ?_
  refine wr_seq ?_
  refine wr_region ?_
  refine wo_val (.int .i64 (IntKind.wrap .i64 ((IntKind.wrap .i64 ((IntKind.wrap .i64 ((IntKind.wrap .i64 ((IntKind.wrap .i64 ((IntKind.wrap .i64 ((IntKind.wrap .i64 ((a.Volumes.length : Int) + (a.Sectors.length : Int))) + (a.Configs.length : Int))) + (a.Segments.length : Int))) + (a.Routes.length : Int))) + (a.Airports.length : Int))) + (a.Classes.length : Int))) + (a.Rules.length : Int)))) rfl pv_move ?_
  refine wo_val (.bool (decide ((IntKind.wrap .i64 ((IntKind.wrap .i64 ((IntKind.wrap .i64 ((IntKind.wrap .i64 ((IntKind.wrap .i64 ((IntKind.wrap .i64 ((IntKind.wrap .i64 ((a.Volumes.length : Int) + (a.Sectors.length : Int))) + (a.Configs.length : Int))) + (a.Segments.length : Int))) + (a.Routes.length : Int))) + (a.Airports.length : Int))) + (a.Classes.length : Int))) + (a.Rules.length : Int))) > 80))) rfl (pv_bin rfl rfl rfl) ?_
  refine wo_nil ?_
  refine wf_ite rfl (fun hc => ?_) (fun hc => ?_)
  · refine wr_seq ?_
    refine wr_region ?_
    refine wo_val (.bool false) rfl pv_assign ?_
    refine wo_nil ?_
    exact wr_ret (a := false) (vs := [(.bool false)]) Try.func11 hI rfl (.same _)
  · refine wr_skip ?_
    refine wr_seq ?_
    refine wr_seq ?_
    refine wr_region ?_
    refine wo_val (.int .i64 0) rfl pv_assign ?_
    refine wo_nil ?_
    refine wr_block ?_
    refine wr_lim (t := 12) (L := a.Sectors) rfl fun hlim => ?_
    refine wr_is [(1, (.ptr (ix ids 0) g 0 0)), (3, (.int .i64 (IntKind.wrap .i64 ((IntKind.wrap .i64 ((IntKind.wrap .i64 ((IntKind.wrap .i64 ((IntKind.wrap .i64 ((IntKind.wrap .i64 ((IntKind.wrap .i64 ((a.Volumes.length : Int) + (a.Sectors.length : Int))) + (a.Configs.length : Int))) + (a.Segments.length : Int))) + (a.Routes.length : Int))) + (a.Airports.length : Int))) + (a.Classes.length : Int))) + (a.Rules.length : Int))))), (4, (.int .i64 0))] (.cons rfl (.cons rfl (.cons rfl .nil))) ?_
    refine wf_eachS' a.Sectors (fun _ a1 => fun n => ref09_Few_b1 a1 n) (((fun n => (eachS (fun _ a2 => fun n1 => ref09_Few_b2 a2 n1) 0 a.Configs n).bind ((fun n1 => (eachS (fun _ a3 => fun n2 => ref09_Few_b3 a3 n2) 0 a.Routes n1).bind ((fun n2 => (eachS (fun _ a4 => fun n3 => ref09_Few_b4 a4 n3) 0 a.Airports n2).bind ((fun n3 => .ok (decide (n3 ≤ 300)))))))))) : _ → R Bool)
      (fun j => fun n => fun (fr : Nat → AV) (h : AHeap) => fr = frA [(1, (.ptr (ix ids 0) g 0 0)), (3, (.int .i64 n)), (4, (.int .i64 (j : Int)))] ∧ h = hp h0 ids [(some (.rows g 8 [(rAirspace a)]))]) (IntKind.wrap .i64 ((IntKind.wrap .i64 ((IntKind.wrap .i64 ((IntKind.wrap .i64 ((IntKind.wrap .i64 ((IntKind.wrap .i64 ((IntKind.wrap .i64 ((a.Volumes.length : Int) + (a.Sectors.length : Int))) + (a.Configs.length : Int))) + (a.Segments.length : Int))) + (a.Routes.length : Int))) + (a.Airports.length : Int))) + (a.Classes.length : Int))) + (a.Rules.length : Int))) ?_ ?_ ?_
    · exact ⟨rfl, rfl⟩
    · rintro j a1 ha1 W hW n fr h ⟨rfl, rfl⟩
      refine wr_mod (m' := ref09_Few_b1 a1 n) rfl (wr_mod (ref09_Few_b1.eq_1 _ _) ?_)
      refine wr_seq ?_
      refine wr_seq ?_
      refine wr_region ?_
      refine wo_val (.int .i64 (j : Int)) rfl pv_move ?_
      refine wo_val (.ptr (ix ids 0) g 0 1) rfl (pv_fa (fa_ptr (c := 0) (off := 1) (i := 1) ti31 rfl ti23 rfl)) ?_
      refine wo_val (.sl 5 (List.map rSector a.Sectors)) rfl (pv_load (ld_ptr hI rfl rfl rfl ti23 rfl)) ?_
      refine wo_val (.int .i64 (a.Sectors.length : Int)) rfl (pv_len (len_sl ti23)) ?_
      refine wo_val (.bool (decide ((j : Int) < (a.Sectors.length : Int)))) rfl (pv_bin rfl rfl rfl) ?_
      refine wo_nil ?_
      refine wr_condT rfl (Int.ofNat_lt.2 (lt_of_get ha1)) ?_
      refine wr_skip ?_
      refine wr_seq ?_
      refine wr_block ?_
      refine wr_region ?_
      refine wo_val (.int .i64 n) rfl pv_move ?_
      refine wo_val (.ptr (ix ids 0) g 0 1) rfl (pv_fa (fa_ptr (c := 0) (off := 1) (i := 1) ti31 rfl ti23 rfl)) ?_
      refine wo_val (.sl 5 (List.map rSector a.Sectors)) rfl (pv_load (ld_ptr hI rfl rfl rfl ti23 rfl)) ?_
      refine wo_val (.int .i64 (j : Int)) rfl pv_move ?_
      refine wo_val (.cp (rSector a1) 0) rfl (pv_ixa (ixa_nat ti23 ti53 rfl ha1)) ?_
      refine wo_val (.cp (rSector a1) 1) rfl (pv_fa (fa_cp (c := 0) (off := 1) (i := 1) ti53 rfl ti38 rfl)) ?_
      refine wo_val (.sl 1 (List.map rS a1.Names)) rfl (pv_load (ld_cp ti38 rfl)) ?_
      refine wo_val (.int .i64 (a1.Names.length : Int)) rfl (pv_len (len_sl ti38)) ?_
      refine wo_val (.int .i64 (IntKind.wrap .i64 (n + (a1.Names.length : Int)))) rfl (pv_bin rfl rfl rfl) ?_
      refine wo_val (.int .i64 (IntKind.wrap .i64 (n + (a1.Names.length : Int)))) rfl pv_assign ?_
      refine wo_nil ?_
      refine wr_inBlock ?_
      refine wr_region ?_
      refine wo_val (.int .i64 (j : Int)) rfl pv_move ?_
      refine wo_val (.int .i64 (IntKind.wrap .i64 ((j : Int) + 1))) rfl (pv_bin rfl rfl rfl) ?_
      refine wo_val (.int .i64 (IntKind.wrap .i64 ((j : Int) + 1))) rfl pv_assign ?_
      refine wo_nil ?_
      refine wr_is [(1, (.ptr (ix ids 0) g 0 0)), (3, (.int .i64 (IntKind.wrap .i64 (n + (a1.Names.length : Int))))), (4, (.int .i64 ((j + 1 : Nat) : Int)))] (.cons rfl (.cons rfl (.cons (inc_ok (lt_of_get ha1) hlim) .nil))) ?_
      refine wb_S ?_
      refine hW (IntKind.wrap .i64 (n + (a1.Names.length : Int))) _ _ ?_
      exact ⟨rfl, rfl⟩
    · rintro n fr h ⟨rfl, rfl⟩
      refine wr_seq ?_
      refine wr_seq ?_
      refine wr_region ?_
      refine wo_val (.int .i64 (a.Sectors.length : Int)) rfl pv_move ?_
      refine wo_val (.ptr (ix ids 0) g 0 1) rfl (pv_fa (fa_ptr (c := 0) (off := 1) (i := 1) ti31 rfl ti23 rfl)) ?_
      refine wo_val (.sl 5 (List.map rSector a.Sectors)) rfl (pv_load (ld_ptr hI rfl rfl rfl ti23 rfl)) ?_
      refine wo_val (.int .i64 (a.Sectors.length : Int)) rfl (pv_len (len_sl ti23)) ?_
      refine wo_val (.bool (decide ((a.Sectors.length : Int) < (a.Sectors.length : Int)))) rfl (pv_bin rfl rfl rfl) ?_
      refine wo_nil ?_
      refine wr_condF rfl (Int.lt_irrefl _) ?_
      refine wr_exit rfl ?_
      refine wr_seq ?_
      refine wr_seq ?_
      refine wr_region ?_
      refine wo_val (.int .i64 0) rfl pv_assign ?_
      refine wo_nil ?_
      refine wr_block ?_
      refine wr_is [(1, (.ptr (ix ids 0) g 0 0)), (3, (.int .i64 n)), (5, (.int .i64 0))] (.cons rfl (.cons rfl (.cons rfl .nil))) ?_
      refine wf_eachS' a.Configs (fun _ a2 => fun n1 => ref09_Few_b2 a2 n1) (((fun n1 => (eachS (fun _ a3 => fun n2 => ref09_Few_b3 a3 n2) 0 a.Routes n1).bind ((fun n2 => (eachS (fun _ a4 => fun n3 => ref09_Few_b4 a4 n3) 0 a.Airports n2).bind ((fun n3 => .ok (decide (n3 ≤ 300)))))))) : _ → R Bool)
        (fun j1 => fun n1 => fun (fr : Nat → AV) (h : AHeap) => fr = frA [(1, (.ptr (ix ids 0) g 0 0)), (3, (.int .i64 n1)), (5, (.int .i64 (j1 : Int)))] ∧ h = hp h0 ids [(some (.rows g 8 [(rAirspace a)]))]) n ?_ ?_ ?_
      · exact ⟨rfl, rfl⟩
      · rintro j1 a2 ha2 W hW1 n1 fr h ⟨rfl, rfl⟩
        refine wr_mod (m' := ref09_Few_b2 a2 n1) rfl (wr_mod (ref09_Few_b2.eq_1 _ _) ?_)
        refine wr_seq ?_
        refine wr_seq ?_
        refine wr_region ?_
        refine wo_val (.int .i64 (j1 : Int)) rfl pv_move ?_
        refine wo_val (.ptr (ix ids 0) g 0 2) rfl (pv_fa (fa_ptr (c := 0) (off := 2) (i := 2) ti31 rfl ti24 rfl)) ?_
        refine wo_val (.sl 3 (List.map rConfig a.Configs)) rfl (pv_load (ld_ptr hI rfl rfl rfl ti24 rfl)) ?_
        refine wo_val (.int .i64 (a.Configs.length : Int)) rfl (pv_len (len_sl ti24)) ?_
        refine wo_val (.bool (decide ((j1 : Int) < (a.Configs.length : Int)))) rfl (pv_bin rfl rfl rfl) ?_
        refine wo_nil ?_
        refine wr_lim (t := 59) (L := a.Configs) rfl fun hlim2 => ?_
        refine wr_condT rfl (Int.ofNat_lt.2 (lt_of_get ha2)) ?_
        refine wr_skip ?_
        refine wr_seq ?_
        refine wr_block ?_
        refine wr_region ?_
        refine wo_val (.int .i64 n1) rfl pv_move ?_
        refine wo_val (.ptr (ix ids 0) g 0 2) rfl (pv_fa (fa_ptr (c := 0) (off := 2) (i := 2) ti31 rfl ti24 rfl)) ?_
        refine wo_val (.sl 3 (List.map rConfig a.Configs)) rfl (pv_load (ld_ptr hI rfl rfl rfl ti24 rfl)) ?_
        refine wo_val (.int .i64 (j1 : Int)) rfl pv_move ?_
        refine wo_val (.cp (rConfig a2) 0) rfl (pv_ixa (ixa_nat ti24 ti55 rfl ha2)) ?_
        refine wo_val (.cp (rConfig a2) 1) rfl (pv_fa (fa_cp (c := 0) (off := 1) (i := 1) ti55 rfl ti38 rfl)) ?_
        refine wo_val (.sl 1 (List.map rS a2.Names)) rfl (pv_load (ld_cp ti38 rfl)) ?_
        refine wo_val (.int .i64 (a2.Names.length : Int)) rfl (pv_len (len_sl ti38)) ?_
        refine wo_val (.int .i64 (IntKind.wrap .i64 (n1 + (a2.Names.length : Int)))) rfl (pv_bin rfl rfl rfl) ?_
        refine wo_val (.int .i64 (IntKind.wrap .i64 (n1 + (a2.Names.length : Int)))) rfl pv_assign ?_
        refine wo_nil ?_
        refine wr_inBlock ?_
        refine wr_region ?_
        refine wo_val (.int .i64 (j1 : Int)) rfl pv_move ?_
        refine wo_val (.int .i64 (IntKind.wrap .i64 ((j1 : Int) + 1))) rfl (pv_bin rfl rfl rfl) ?_
        refine wo_val (.int .i64 (IntKind.wrap .i64 ((j1 : Int) + 1))) rfl pv_assign ?_
        refine wo_nil ?_
        refine wr_is [(1, (.ptr (ix ids 0) g 0 0)), (3, (.int .i64 (IntKind.wrap .i64 (n1 + (a2.Names.length : Int))))), (5, (.int .i64 ((j1 + 1 : Nat) : Int)))] (.cons rfl (.cons rfl (.cons (inc_ok (lt_of_get ha2) hlim2) .nil))) ?_
        refine wb_S ?_
        refine hW1 (IntKind.wrap .i64 (n1 + (a2.Names.length : Int))) _ _ ?_
        exact ⟨rfl, rfl⟩
      · rintro n1 fr h ⟨rfl, rfl⟩
        refine wr_seq ?_
        refine wr_seq ?_
        refine wr_region ?_
        refine wo_val (.int .i64 (a.Configs.length : Int)) rfl pv_move ?_
        refine wo_val (.ptr (ix ids 0) g 0 2) rfl (pv_fa (fa_ptr (c := 0) (off := 2) (i := 2) ti31 rfl ti24 rfl)) ?_
        refine wo_val (.sl 3 (List.map rConfig a.Configs)) rfl (pv_load (ld_ptr hI rfl rfl rfl ti24 rfl)) ?_
        refine wo_val (.int .i64 (a.Configs.length : Int)) rfl (pv_len (len_sl ti24)) ?_
        refine wo_val (.bool (decide ((a.Configs.length : Int) < (a.Configs.length : Int)))) rfl (pv_bin rfl rfl rfl) ?_
        refine wo_nil ?_
        refine wr_condF rfl (Int.lt_irrefl _) ?_
        refine wr_exit rfl ?_
        refine wr_seq ?_
        refine wr_seq ?_
        refine wr_region ?_
        refine wo_val (.int .i64 0) rfl pv_assign ?_
        refine wo_nil ?_
        refine wr_block ?_
        refine wr_is [(1, (.ptr (ix ids 0) g 0 0)), (3, (.int .i64 n1)), (6, (.int .i64 0))] (.cons rfl (.cons rfl (.cons rfl .nil))) ?_
        refine wf_eachS' a.Routes (fun _ a3 => fun n2 => ref09_Few_b3 a3 n2) (((fun n2 => (eachS (fun _ a4 => fun n3 => ref09_Few_b4 a4 n3) 0 a.Airports n2).bind ((fun n3 => .ok (decide (n3 ≤ 300)))))) : _ → R Bool)
          (fun j2 => fun n2 => fun (fr : Nat → AV) (h : AHeap) => fr = frA [(1, (.ptr (ix ids 0) g 0 0)), (3, (.int .i64 n2)), (6, (.int .i64 (j2 : Int)))] ∧ h = hp h0 ids [(some (.rows g 8 [(rAirspace a)]))]) n1 ?_ ?_ ?_
        · exact ⟨rfl, rfl⟩
        · rintro j2 a3 ha3 W hW2 n2 fr h ⟨rfl, rfl⟩
          refine wr_mod (m' := ref09_Few_b3 a3 n2) rfl (wr_mod (ref09_Few_b3.eq_1 _ _) ?_)
          refine wr_seq ?_
          refine wr_seq ?_
          refine wr_region ?_
          refine wo_val (.int .i64 (j2 : Int)) rfl pv_move ?_
          refine wo_val (.ptr (ix ids 0) g 0 4) rfl (pv_fa (fa_ptr (c := 0) (off := 4) (i := 4) ti31 rfl ti26 rfl)) ?_
          refine wo_val (.sl 7 (List.map rRoute a.Routes)) rfl (pv_load (ld_ptr hI rfl rfl rfl ti26 rfl)) ?_
          refine wo_val (.int .i64 (a.Routes.length : Int)) rfl (pv_len (len_sl ti26)) ?_
          refine wo_val (.bool (decide ((j2 : Int) < (a.Routes.length : Int)))) rfl (pv_bin rfl rfl rfl) ?_
          refine wo_nil ?_
          refine wr_lim (t := 75) (L := a.Routes) rfl fun hlim4 => ?_
          refine wr_condT rfl (Int.ofNat_lt.2 (lt_of_get ha3)) ?_
          refine wr_skip ?_
          refine wr_seq ?_
          refine wr_block ?_
          refine wr_region ?_
          refine wo_val (.int .i64 n2) rfl pv_move ?_
          refine wo_val (.ptr (ix ids 0) g 0 4) rfl (pv_fa (fa_ptr (c := 0) (off := 4) (i := 4) ti31 rfl ti26 rfl)) ?_
          refine wo_val (.sl 7 (List.map rRoute a.Routes)) rfl (pv_load (ld_ptr hI rfl rfl rfl ti26 rfl)) ?_
          refine wo_val (.int .i64 (j2 : Int)) rfl pv_move ?_
          refine wo_val (.cp (rRoute a3) 0) rfl (pv_ixa (ixa_nat ti26 ti59 rfl ha3)) ?_
          refine wo_val (.cp (rRoute a3) 5) rfl (pv_fa (fa_cp (c := 0) (off := 5) (i := 5) ti59 rfl ti38 rfl)) ?_
          refine wo_val (.sl 1 (List.map rS a3.Names)) rfl (pv_load (ld_cp ti38 rfl)) ?_
          refine wo_val (.int .i64 (a3.Names.length : Int)) rfl (pv_len (len_sl ti38)) ?_
          refine wo_val (.int .i64 (IntKind.wrap .i64 (n2 + (a3.Names.length : Int)))) rfl (pv_bin rfl rfl rfl) ?_
          refine wo_val (.int .i64 (IntKind.wrap .i64 (n2 + (a3.Names.length : Int)))) rfl pv_assign ?_
          refine wo_nil ?_
          refine wr_inBlock ?_
          refine wr_region ?_
          refine wo_val (.int .i64 (j2 : Int)) rfl pv_move ?_
          refine wo_val (.int .i64 (IntKind.wrap .i64 ((j2 : Int) + 1))) rfl (pv_bin rfl rfl rfl) ?_
          refine wo_val (.int .i64 (IntKind.wrap .i64 ((j2 : Int) + 1))) rfl pv_assign ?_
          refine wo_nil ?_
          refine wr_is [(1, (.ptr (ix ids 0) g 0 0)), (3, (.int .i64 (IntKind.wrap .i64 (n2 + (a3.Names.length : Int))))), (6, (.int .i64 ((j2 + 1 : Nat) : Int)))] (.cons rfl (.cons rfl (.cons (inc_ok (lt_of_get ha3) hlim4) .nil))) ?_
          refine wb_S ?_
          refine hW2 (IntKind.wrap .i64 (n2 + (a3.Names.length : Int))) _ _ ?_
          exact ⟨rfl, rfl⟩
        · rintro n2 fr h ⟨rfl, rfl⟩
          refine wr_seq ?_
          refine wr_seq ?_
          refine wr_region ?_
          refine wo_val (.int .i64 (a.Routes.length : Int)) rfl pv_move ?_
          refine wo_val (.ptr (ix ids 0) g 0 4) rfl (pv_fa (fa_ptr (c := 0) (off := 4) (i := 4) ti31 rfl ti26 rfl)) ?_
          refine wo_val (.sl 7 (List.map rRoute a.Routes)) rfl (pv_load (ld_ptr hI rfl rfl rfl ti26 rfl)) ?_
          refine wo_val (.int .i64 (a.Routes.length : Int)) rfl (pv_len (len_sl ti26)) ?_
          refine wo_val (.bool (decide ((a.Routes.length : Int) < (a.Routes.length : Int)))) rfl (pv_bin rfl rfl rfl) ?_
          refine wo_nil ?_
          refine wr_condF rfl (Int.lt_irrefl _) ?_
          refine wr_exit rfl ?_
          refine wr_seq ?_
          refine wr_seq ?_
          refine wr_region ?_
          refine wo_val (.int .i64 0) rfl pv_assign ?_
          refine wo_nil ?_
          refine wr_block ?_
          refine wr_is [(1, (.ptr (ix ids 0) g 0 0)), (3, (.int .i64 n2)), (7, (.int .i64 0))] (.cons rfl (.cons rfl (.cons rfl .nil))) ?_
          refine wf_eachS' a.Airports (fun _ a4 => fun n3 => ref09_Few_b4 a4 n3) (((fun n3 => .ok (decide (n3 ≤ 300)))) : _ → R Bool)
            (fun j3 => fun n3 => fun (fr : Nat → AV) (h : AHeap) => fr = frA [(1, (.ptr (ix ids 0) g 0 0)), (3, (.int .i64 n3)), (7, (.int .i64 (j3 : Int)))] ∧ h = hp h0 ids [(some (.rows g 8 [(rAirspace a)]))]) n2 ?_ ?_ ?_
          · exact ⟨rfl, rfl⟩
          · rintro j3 a4 ha4 W hW3 n3 fr h ⟨rfl, rfl⟩
            refine wr_mod (m' := ref09_Few_b4 a4 n3) rfl (wr_mod (ref09_Few_b4.eq_1 _ _) ?_)
            refine wr_seq ?_
            refine wr_seq ?_
            refine wr_region ?_
            refine wo_val (.int .i64 (j3 : Int)) rfl pv_move ?_
            refine wo_val (.ptr (ix ids 0) g 0 5) rfl (pv_fa (fa_ptr (c := 0) (off := 5) (i := 5) ti31 rfl ti27 rfl)) ?_
            refine wo_val (.sl 2 (List.map rAirport a.Airports)) rfl (pv_load (ld_ptr hI rfl rfl rfl ti27 rfl)) ?_
            refine wo_val (.int .i64 (a.Airports.length : Int)) rfl (pv_len (len_sl ti27)) ?_
            refine wo_val (.bool (decide ((j3 : Int) < (a.Airports.length : Int)))) rfl (pv_bin rfl rfl rfl) ?_
            refine wo_nil ?_
            refine wr_lim (t := 91) (L := a.Airports) rfl fun hlim6 => ?_
            refine wr_condT rfl (Int.ofNat_lt.2 (lt_of_get ha4)) ?_
            refine wr_skip ?_
            refine wr_seq ?_
            refine wr_block ?_
            refine wr_region ?_
            refine wo_val (.int .i64 n3) rfl pv_move ?_
            refine wo_val (.ptr (ix ids 0) g 0 5) rfl (pv_fa (fa_ptr (c := 0) (off := 5) (i := 5) ti31 rfl ti27 rfl)) ?_
            refine wo_val (.sl 2 (List.map rAirport a.Airports)) rfl (pv_load (ld_ptr hI rfl rfl rfl ti27 rfl)) ?_
            refine wo_val (.int .i64 (j3 : Int)) rfl pv_move ?_
            refine wo_val (.cp (rAirport a4) 0) rfl (pv_ixa (ixa_nat ti27 ti46 rfl ha4)) ?_
            refine wo_val (.cp (rAirport a4) 1) rfl (pv_fa (fa_cp (c := 0) (off := 1) (i := 1) ti46 rfl ti44 rfl)) ?_
            refine wo_val (.sl 2 (List.map rMode a4.Modes)) rfl (pv_load (ld_cp ti44 rfl)) ?_
            refine wo_val (.int .i64 (a4.Modes.length : Int)) rfl (pv_len (len_sl ti44)) ?_
            refine wo_val (.int .i64 (IntKind.wrap .i64 (n3 + (a4.Modes.length : Int)))) rfl (pv_bin rfl rfl rfl) ?_
            refine wo_val (.int .i64 (IntKind.wrap .i64 (n3 + (a4.Modes.length : Int)))) rfl pv_assign ?_
            refine wo_nil ?_
            refine wr_inBlock ?_
            refine wr_region ?_
            refine wo_val (.int .i64 (j3 : Int)) rfl pv_move ?_
            refine wo_val (.int .i64 (IntKind.wrap .i64 ((j3 : Int) + 1))) rfl (pv_bin rfl rfl rfl) ?_
            refine wo_val (.int .i64 (IntKind.wrap .i64 ((j3 : Int) + 1))) rfl pv_assign ?_
            refine wo_nil ?_
            refine wr_is [(1, (.ptr (ix ids 0) g 0 0)), (3, (.int .i64 (IntKind.wrap .i64 (n3 + (a4.Modes.length : Int))))), (7, (.int .i64 ((j3 + 1 : Nat) : Int)))] (.cons rfl (.cons rfl (.cons (inc_ok (lt_of_get ha4) hlim6) .nil))) ?_
            refine wb_S ?_
            refine hW3 (IntKind.wrap .i64 (n3 + (a4.Modes.length : Int))) _ _ ?_
            exact ⟨rfl, rfl⟩
          · rintro n3 fr h ⟨rfl, rfl⟩
            refine wr_seq ?_
            refine wr_seq ?_
            refine wr_region ?_
            refine wo_val (.int .i64 (a.Airports.length : Int)) rfl pv_move ?_
            refine wo_val (.ptr (ix ids 0) g 0 5) rfl (pv_fa (fa_ptr (c := 0) (off := 5) (i := 5) ti31 rfl ti27 rfl)) ?_
            refine wo_val (.sl 2 (List.map rAirport a.Airports)) rfl (pv_load (ld_ptr hI rfl rfl rfl ti27 rfl)) ?_
            refine wo_val (.int .i64 (a.Airports.length : Int)) rfl (pv_len (len_sl ti27)) ?_
            refine wo_val (.bool (decide ((a.Airports.length : Int) < (a.Airports.length : Int)))) rfl (pv_bin rfl rfl rfl) ?_
            refine wo_nil ?_
            refine wr_condF rfl (Int.lt_irrefl _) ?_
            refine wr_exit rfl ?_
            refine wr_seq ?_
            refine wr_region ?_
            refine wo_val (.int .i64 n3) rfl pv_move ?_
            refine wo_val (.bool (decide (n3 ≤ 300))) rfl (pv_bin rfl rfl rfl) ?_
            refine wo_val (.bool (decide (n3 ≤ 300))) rfl pv_assign ?_
            refine wo_nil ?_
            exact wr_ret (a := (decide (n3 ≤ 300))) (vs := [(.bool (decide (n3 ≤ 300)))]) Try.func11 hI rfl (.same _)

theorem cp_law09_NamesMissing (a : Airspace) (b : Int) : CP Try.prog 8 [(.agg (rAirspace a)), (.int .u8 b)] (law09_NamesMissing a b) (fun (x : Bool) => (AV.bool x)) := by
  refine cp_intro (n := 312) 17 Try.func8 rfl (by decide) rfl rfl fun h0 ids hI => ?_
  refine wr_in (wr_mod (law09_NamesMissing.eq_1 _ _) ?_)
  refine wr_seq ?_
  refine wr_region ?_
  refine wo_box (v := (.agg (rAirspace a))) (j := 0) hI rfl rfl rfl rfl rfl rfl rfl fun g => ?_
  refine wo_val (.bool false) rfl pv_assign ?_
  refine wo_nil ?_
  refine wr_hp [(some (.rows g 8 [(rAirspace a)])), none, none, none, none, none, none, none, none, none, none, none, none, none, none, none, none] rfl ?_
  refine wr_seq ?_
  refine wr_seq ?_
  refine wr_region ?_
  refine of_call [] rfl rfl rfl rfl ((cp_law09_sane) _) (fun v _ => wu_pan Try.func8 hI) fun r _ => ?_
  refine wo_val (.bool (!r)) rfl (pv_un rfl) ?_
  refine wo_nil ?_
  refine wf_itebn rfl (fun hc => ?_) (fun hc => ?_)
  · refine wr_skip ?_
    refine wr_seq ?_
    refine wr_seq ?_
    refine wr_region ?_
    refine wo_val (.agg (rAirspace a)) rfl (pv_load (ld_ptr hI rfl rfl rfl ti31 rfl)) ?_
    refine of_call [(.agg (rAirspace a))] rfl rfl rfl rfl ((cp_ref09_Few a) _) (fun v _ => wu_pan Try.func8 hI) fun r1 _ => ?_
    refine wo_val (.bool (!r1)) rfl (pv_un rfl) ?_
    refine wo_nil ?_
    refine wf_itebn rfl (fun hc1 => ?_) (fun hc1 => ?_)
    · refine wr_skip ?_
      refine wr_seq ?_
      refine wr_region ?_
      refine wo_val (.agg (rAirspace a)) rfl (pv_load (ld_ptr hI rfl rfl rfl ti31 rfl)) ?_
      refine of_call [(.agg (rAirspace a))] rfl rfl rfl rfl ((cp_names_Resolve a) _) (fun v _ => wu_pan Try.func8 hI) fun r2 _ => ?_
      refine wo_val (.tup [(.agg (rAirspace r2.1)), (.int .i64 r2.2)]) rfl pv_move ?_
      refine wo_val (.agg (rAirspace r2.1)) rfl (pv_ext rfl) ?_
      refine wo_val (.int .i64 r2.2) rfl (pv_ext rfl) ?_
      refine wo_alloc (j := 1) hI rfl rfl rfl rfl ti31 rfl fun g1 => ?_
      refine wo_store (st_ptr hI rfl rfl rfl rfl ti31 rfl rfl rfl rfl rfl) ?_
      refine wo_val (.int .i64 r2.2) rfl pv_assign ?_
      refine wo_nil ?_
      refine wr_hp [(some (.rows g 8 [(rAirspace a)])), (some (.rows g1 8 [(rAirspace r2.1)])), none, none, none, none, none, none, none, none, none, none, none, none, none, none, none] rfl ?_
      refine wr_seq ?_
      refine wr_seq ?_
      refine wr_region ?_
      refine wo_val (.int .i64 r2.2) rfl pv_move ?_
      refine wo_val (.bool (r2.2 != 0)) rfl (pv_bin rfl rfl rfl) ?_
      refine wo_nil ?_
      refine wf_iteb rfl (fun hc2 => ?_) (fun hc2 => ?_)
      · refine wr_seq ?_
        refine wr_region ?_
        refine wo_val (.bool true) rfl pv_assign ?_
        refine wo_nil ?_
        exact wr_ret (a := true) (vs := [(.bool true)]) Try.func8 hI rfl (.same _)
      · refine wr_skip ?_
        refine wr_seq ?_
        refine wr_region ?_
        refine wo_val (.str []) rfl pv_assign ?_
        refine wo_nil ?_
        refine wr_seq ?_
        refine wr_seq ?_
        refine wr_region ?_
        refine wo_val (.ptr (ix ids 0) g 0 0) rfl (pv_fa (fa_ptr (c := 0) (off := 0) (i := 0) ti31 rfl ti22 rfl)) ?_
        refine wo_val (.sl 2 (List.map rVolume a.Volumes)) rfl (pv_load (ld_ptr hI rfl rfl rfl ti22 rfl)) ?_
        refine wo_val (.int .i64 (a.Volumes.length : Int)) rfl (pv_len (len_sl ti22)) ?_
        refine wo_val (.int .i64 0) rfl pv_move ?_
        refine wo_nil ?_
        refine wr_block ?_
        refine wr_is [(1, (.int .u8 b)), (2, (.ptr (ix ids 0) g 0 0)), (5, (.ptr (ix ids 1) g1 0 0)), (7, (.str [])), (47, (.sl 2 (List.map rVolume a.Volumes))), (48, (.int .i64 (a.Volumes.length : Int))), (49, (.int .i64 0))] (.cons rfl (.cons rfl (.cons rfl (.cons rfl (.cons rfl (.cons rfl (.cons rfl .nil))))))) ?_
        refine wf_eachS' a.Volumes (fun _ a1 => fun x => law09_NamesMissing_b1 a1 x) (((fun x => (eachS (fun _ a2 => fun x2 => law09_NamesMissing_b2 a2 x2) 0 a.Sectors x).bind ((fun x2 => (eachS (fun _ a3 => fun x4 => law09_NamesMissing_b3 a3 x4) 0 a.Segments x2).bind ((fun x4 => (eachS (fun _ a4 => fun x6 => law09_NamesMissing_b4 a4 x6) 0 a.Classes x4).bind ((fun x6 => if (decide ((r2.1.Sectors.length : Int) > 0)) then
(if (r2.1.Sectors.length : Int) ≠ 0 then (idx r2.1.Sectors (Int.tmod (IntKind.wrap .i64 b) (r2.1.Sectors.length : Int))).bind fun a5 =>
  law09_NamesMissing_j7 a b r r2 x6 (decide ((a5.Volumes.length : Int) > 0)) else .bad)
else
(law09_NamesMissing_j7 a b r r2 x6 false))))))))) : _ → R Bool)
          (fun j => fun x => fun (fr : Nat → AV) (h : AHeap) => fr = frA [(1, (.int .u8 b)), (2, (.ptr (ix ids 0) g 0 0)), (5, (.ptr (ix ids 1) g1 0 0)), (7, (.str x)), (47, (.sl 2 (List.map rVolume a.Volumes))), (48, (.int .i64 (a.Volumes.length : Int))), (49, (.int .i64 (j : Int)))] ∧ h = hp h0 ids [(some (.rows g 8 [(rAirspace a)])), (some (.rows g1 8 [(rAirspace r2.1)])), none, none, none, none, none, none, none, none, none, none, none, none, none, none, none]) [] ?_ ?_ ?_
        · exact ⟨rfl, rfl⟩
        · rintro j a1 ha1 W hW x fr h ⟨rfl, rfl⟩
          refine wr_mod (m' := law09_NamesMissing_b1 a1 x) rfl (wr_mod (law09_NamesMissing_b1.eq_1 _ _) ?_)
          refine wr_seq ?_
          refine wr_region ?_
          refine wo_val (.bool (decide ((j : Int) < (a.Volumes.length : Int)))) rfl (pv_bin rfl rfl rfl) ?_
          refine wo_nil ?_
          refine wr_seq ?_
          refine wr_lim (t := 47) (L := a.Volumes) rfl fun hlim => ?_
          refine wr_condT rfl (Int.ofNat_lt.2 (lt_of_get ha1)) ?_
          refine wr_skip ?_
          refine wr_seq ?_
          refine wr_block ?_
          refine wr_seq ?_
          refine wr_region ?_
          refine wo_val (.cp (rVolume a1) 0) rfl (pv_ixa (ixa_nat ti22 ti41 rfl ha1)) ?_
          refine wo_val (.agg (rVolume a1)) rfl (pv_load (ld_cp ti41 rfl)) ?_
          refine wo_alloc (j := 2) hI rfl rfl rfl rfl ti41 rfl fun g2 => ?_
          refine wo_store (st_ptr hI rfl rfl rfl rfl ti41 rfl rfl rfl rfl rfl) ?_
          refine wo_nil ?_
          refine wr_hp [(some (.rows g 8 [(rAirspace a)])), (some (.rows g1 8 [(rAirspace r2.1)])), (some (.rows g2 2 [(rVolume a1)])), none, none, none, none, none, none, none, none, none, none, none, none, none, none] rfl ?_
          refine wr_region ?_
          refine wo_val (.str x) rfl pv_move ?_
          refine wo_val (.ptr (ix ids 2) g2 0 0) rfl (pv_fa (fa_ptr (c := 0) (off := 0) (i := 0) ti41 rfl ti9 rfl)) ?_
          refine wo_val (.str a1.Name) rfl (pv_load (ld_ptr hI rfl rfl rfl ti9 rfl)) ?_
          refine of_need fun hl => ?_
          refine wo_val (.str (a1.Name ++ [120])) rfl (pv_bin rfl rfl (bin_cat hl)) ?_
          refine of_need fun hl1 => ?_
          refine wo_val (.str (x ++ (a1.Name ++ [120]))) rfl (pv_bin rfl rfl (bin_cat hl1)) ?_
          refine wo_val (.str (x ++ (a1.Name ++ [120]))) rfl pv_assign ?_
          refine wo_nil ?_
          refine wr_inBlock ?_
          refine wr_region ?_
          refine wo_val (.int .i64 (IntKind.wrap .i64 ((j : Int) + 1))) rfl (pv_bin rfl rfl rfl) ?_
          refine wo_val (.int .i64 (IntKind.wrap .i64 ((j : Int) + 1))) rfl pv_move ?_
          refine wo_nil ?_
          refine wr_drop [(some (.rows g 8 [(rAirspace a)])), (some (.rows g1 8 [(rAirspace r2.1)])), none, none, none, none, none, none, none, none, none, none, none, none, none, none, none] hI rfl (.keep (.keep (.drop (.keep (.keep (.keep (.keep (.keep (.keep (.keep (.keep (.keep (.keep (.keep (.keep (.keep (.keep .nil))))))))))))))))) ?_
          refine wr_is [(1, (.int .u8 b)), (2, (.ptr (ix ids 0) g 0 0)), (5, (.ptr (ix ids 1) g1 0 0)), (7, (.str (x ++ (a1.Name ++ [120])))), (47, (.sl 2 (List.map rVolume a.Volumes))), (48, (.int .i64 (a.Volumes.length : Int))), (49, (.int .i64 ((j + 1 : Nat) : Int)))] (.cons rfl (.cons rfl (.cons rfl (.cons rfl (.cons rfl (.cons rfl (.cons (inc_ok (lt_of_get ha1) hlim) .nil))))))) ?_
          refine wb_S ?_
          refine hW (x ++ (a1.Name ++ [120])) _ _ ?_
          exact ⟨rfl, rfl⟩
        · rintro x fr h ⟨rfl, rfl⟩
          refine wr_seq ?_
          refine wr_region ?_
          refine wo_val (.bool (decide ((a.Volumes.length : Int) < (a.Volumes.length : Int)))) rfl (pv_bin rfl rfl rfl) ?_
          refine wo_nil ?_
          refine wr_seq ?_
          refine wr_condF rfl (Int.lt_irrefl _) ?_
          refine wr_exit rfl ?_
          refine wr_seq ?_
          refine wr_seq ?_
          refine wr_region ?_
          refine wo_val (.ptr (ix ids 0) g 0 1) rfl (pv_fa (fa_ptr (c := 0) (off := 1) (i := 1) ti31 rfl ti23 rfl)) ?_
          refine wo_val (.sl 5 (List.map rSector a.Sectors)) rfl (pv_load (ld_ptr hI rfl rfl rfl ti23 rfl)) ?_
          refine wo_val (.int .i64 (a.Sectors.length : Int)) rfl (pv_len (len_sl ti23)) ?_
          refine wo_val (.int .i64 0) rfl pv_move ?_
          refine wo_nil ?_
          refine wr_block ?_
          refine wr_is [(1, (.int .u8 b)), (2, (.ptr (ix ids 0) g 0 0)), (5, (.ptr (ix ids 1) g1 0 0)), (7, (.str x)), (60, (.sl 5 (List.map rSector a.Sectors))), (61, (.int .i64 (a.Sectors.length : Int))), (62, (.int .i64 0))] (.cons rfl (.cons rfl (.cons rfl (.cons rfl (.cons rfl (.cons rfl (.cons rfl .nil))))))) ?_
          refine wf_eachS' a.Sectors (fun _ a2 => fun x2 => law09_NamesMissing_b2 a2 x2) (((fun x2 => (eachS (fun _ a3 => fun x4 => law09_NamesMissing_b3 a3 x4) 0 a.Segments x2).bind ((fun x4 => (eachS (fun _ a4 => fun x6 => law09_NamesMissing_b4 a4 x6) 0 a.Classes x4).bind ((fun x6 => if (decide ((r2.1.Sectors.length : Int) > 0)) then
(if (r2.1.Sectors.length : Int) ≠ 0 then (idx r2.1.Sectors (Int.tmod (IntKind.wrap .i64 b) (r2.1.Sectors.length : Int))).bind fun a5 =>
  law09_NamesMissing_j7 a b r r2 x6 (decide ((a5.Volumes.length : Int) > 0)) else .bad)
else
(law09_NamesMissing_j7 a b r r2 x6 false))))))) : _ → R Bool)
            (fun j1 => fun x2 => fun (fr : Nat → AV) (h : AHeap) => fr = frA [(1, (.int .u8 b)), (2, (.ptr (ix ids 0) g 0 0)), (5, (.ptr (ix ids 1) g1 0 0)), (7, (.str x2)), (60, (.sl 5 (List.map rSector a.Sectors))), (61, (.int .i64 (a.Sectors.length : Int))), (62, (.int .i64 (j1 : Int)))] ∧ h = hp h0 ids [(some (.rows g 8 [(rAirspace a)])), (some (.rows g1 8 [(rAirspace r2.1)])), none, none, none, none, none, none, none, none, none, none, none, none, none, none, none]) x ?_ ?_ ?_
          · exact ⟨rfl, rfl⟩
          · rintro j1 a2 ha2 W hW1 x2 fr h ⟨rfl, rfl⟩
            refine wr_mod (m' := law09_NamesMissing_b2 a2 x2) rfl (wr_mod (law09_NamesMissing_b2.eq_1 _ _) ?_)
            refine wr_seq ?_
            refine wr_region ?_
            refine wo_val (.bool (decide ((j1 : Int) < (a.Sectors.length : Int)))) rfl (pv_bin rfl rfl rfl) ?_
            refine wo_nil ?_
            refine wr_seq ?_
            refine wr_lim (t := 60) (L := a.Sectors) rfl fun hlim1 => ?_
            refine wr_condT rfl (Int.ofNat_lt.2 (lt_of_get ha2)) ?_
            refine wr_skip ?_
            refine wr_seq ?_
            refine wr_block ?_
            refine wr_seq ?_
            refine wr_region ?_
            refine wo_val (.cp (rSector a2) 0) rfl (pv_ixa (ixa_nat ti23 ti53 rfl ha2)) ?_
            refine wo_val (.agg (rSector a2)) rfl (pv_load (ld_cp ti53 rfl)) ?_
            refine wo_alloc (j := 3) hI rfl rfl rfl rfl ti53 rfl fun g3 => ?_
            refine wo_store (st_ptr hI rfl rfl rfl rfl ti53 rfl rfl rfl rfl rfl) ?_
            refine wo_nil ?_
            refine wr_hp [(some (.rows g 8 [(rAirspace a)])), (some (.rows g1 8 [(rAirspace r2.1)])), none, (some (.rows g3 5 [(rSector a2)])), none, none, none, none, none, none, none, none, none, none, none, none, none] rfl ?_
            refine wr_region ?_
            refine wo_val (.str x2) rfl pv_move ?_
            refine wo_val (.ptr (ix ids 3) g3 0 0) rfl (pv_fa (fa_ptr (c := 0) (off := 0) (i := 0) ti53 rfl ti9 rfl)) ?_
            refine wo_val (.str a2.Name) rfl (pv_load (ld_ptr hI rfl rfl rfl ti9 rfl)) ?_
            refine of_need fun hl2 => ?_
            refine wo_val (.str (a2.Name ++ [120])) rfl (pv_bin rfl rfl (bin_cat hl2)) ?_
            refine of_need fun hl3 => ?_
            refine wo_val (.str (x2 ++ (a2.Name ++ [120]))) rfl (pv_bin rfl rfl (bin_cat hl3)) ?_
            refine wo_val (.str (x2 ++ (a2.Name ++ [120]))) rfl pv_assign ?_
            refine wo_nil ?_
            refine wr_inBlock ?_
            refine wr_region ?_
            refine wo_val (.int .i64 (IntKind.wrap .i64 ((j1 : Int) + 1))) rfl (pv_bin rfl rfl rfl) ?_
            refine wo_val (.int .i64 (IntKind.wrap .i64 ((j1 : Int) + 1))) rfl pv_move ?_
            refine wo_nil ?_
            refine wr_drop [(some (.rows g 8 [(rAirspace a)])), (some (.rows g1 8 [(rAirspace r2.1)])), none, none, none, none, none, none, none, none, none, none, none, none, none, none, none] hI rfl (.keep (.keep (.keep (.drop (.keep (.keep (.keep (.keep (.keep (.keep (.keep (.keep (.keep (.keep (.keep (.keep (.keep .nil))))))))))))))))) ?_
            refine wr_is [(1, (.int .u8 b)), (2, (.ptr (ix ids 0) g 0 0)), (5, (.ptr (ix ids 1) g1 0 0)), (7, (.str (x2 ++ (a2.Name ++ [120])))), (60, (.sl 5 (List.map rSector a.Sectors))), (61, (.int .i64 (a.Sectors.length : Int))), (62, (.int .i64 ((j1 + 1 : Nat) : Int)))] (.cons rfl (.cons rfl (.cons rfl (.cons rfl (.cons rfl (.cons rfl (.cons (inc_ok (lt_of_get ha2) hlim1) .nil))))))) ?_
            refine wb_S ?_
            refine hW1 (x2 ++ (a2.Name ++ [120])) _ _ ?_
            exact ⟨rfl, rfl⟩
          · rintro x2 fr h ⟨rfl, rfl⟩
            refine wr_seq ?_
            refine wr_region ?_
            refine wo_val (.bool (decide ((a.Sectors.length : Int) < (a.Sectors.length : Int)))) rfl (pv_bin rfl rfl rfl) ?_
            refine wo_nil ?_
            refine wr_seq ?_
            refine wr_condF rfl (Int.lt_irrefl _) ?_
            refine wr_exit rfl ?_
            refine wr_seq ?_
            refine wr_seq ?_
            refine wr_region ?_
            refine wo_val (.ptr (ix ids 0) g 0 3) rfl (pv_fa (fa_ptr (c := 0) (off := 3) (i := 3) ti31 rfl ti25 rfl)) ?_
            refine wo_val (.sl 5 (List.map rSegment a.Segments)) rfl (pv_load (ld_ptr hI rfl rfl rfl ti25 rfl)) ?_
            refine wo_val (.int .i64 (a.Segments.length : Int)) rfl (pv_len (len_sl ti25)) ?_
            refine wo_val (.int .i64 0) rfl pv_move ?_
            refine wo_nil ?_
            refine wr_block ?_
            refine wr_is [(1, (.int .u8 b)), (2, (.ptr (ix ids 0) g 0 0)), (5, (.ptr (ix ids 1) g1 0 0)), (7, (.str x2)), (73, (.sl 5 (List.map rSegment a.Segments))), (74, (.int .i64 (a.Segments.length : Int))), (75, (.int .i64 0))] (.cons rfl (.cons rfl (.cons rfl (.cons rfl (.cons rfl (.cons rfl (.cons rfl .nil))))))) ?_
            refine wf_eachS' a.Segments (fun _ a3 => fun x4 => law09_NamesMissing_b3 a3 x4) (((fun x4 => (eachS (fun _ a4 => fun x6 => law09_NamesMissing_b4 a4 x6) 0 a.Classes x4).bind ((fun x6 => if (decide ((r2.1.Sectors.length : Int) > 0)) then
(if (r2.1.Sectors.length : Int) ≠ 0 then (idx r2.1.Sectors (Int.tmod (IntKind.wrap .i64 b) (r2.1.Sectors.length : Int))).bind fun a5 =>
  law09_NamesMissing_j7 a b r r2 x6 (decide ((a5.Volumes.length : Int) > 0)) else .bad)
else
(law09_NamesMissing_j7 a b r r2 x6 false))))) : _ → R Bool)
              (fun j2 => fun x4 => fun (fr : Nat → AV) (h : AHeap) => fr = frA [(1, (.int .u8 b)), (2, (.ptr (ix ids 0) g 0 0)), (5, (.ptr (ix ids 1) g1 0 0)), (7, (.str x4)), (73, (.sl 5 (List.map rSegment a.Segments))), (74, (.int .i64 (a.Segments.length : Int))), (75, (.int .i64 (j2 : Int)))] ∧ h = hp h0 ids [(some (.rows g 8 [(rAirspace a)])), (some (.rows g1 8 [(rAirspace r2.1)])), none, none, none, none, none, none, none, none, none, none, none, none, none, none, none]) x2 ?_ ?_ ?_
            · exact ⟨rfl, rfl⟩
            · rintro j2 a3 ha3 W hW2 x4 fr h ⟨rfl, rfl⟩
              refine wr_mod (m' := law09_NamesMissing_b3 a3 x4) rfl (wr_mod (law09_NamesMissing_b3.eq_1 _ _) ?_)
              refine wr_seq ?_
              refine wr_region ?_
              refine wo_val (.bool (decide ((j2 : Int) < (a.Segments.length : Int)))) rfl (pv_bin rfl rfl rfl) ?_
              refine wo_nil ?_
              refine wr_seq ?_
              refine wr_lim (t := 73) (L := a.Segments) rfl fun hlim2 => ?_
              refine wr_condT rfl (Int.ofNat_lt.2 (lt_of_get ha3)) ?_
              refine wr_skip ?_
              refine wr_seq ?_
              refine wr_block ?_
              refine wr_seq ?_
              refine wr_region ?_
              refine wo_val (.cp (rSegment a3) 0) rfl (pv_ixa (ixa_nat ti25 ti57 rfl ha3)) ?_
              refine wo_val (.agg (rSegment a3)) rfl (pv_load (ld_cp ti57 rfl)) ?_
              refine wo_alloc (j := 4) hI rfl rfl rfl rfl ti57 rfl fun g4 => ?_
              refine wo_store (st_ptr hI rfl rfl rfl rfl ti57 rfl rfl rfl rfl rfl) ?_
              refine wo_nil ?_
              refine wr_hp [(some (.rows g 8 [(rAirspace a)])), (some (.rows g1 8 [(rAirspace r2.1)])), none, none, (some (.rows g4 5 [(rSegment a3)])), none, none, none, none, none, none, none, none, none, none, none, none] rfl ?_
              refine wr_region ?_
              refine wo_val (.str x4) rfl pv_move ?_
              refine wo_val (.ptr (ix ids 4) g4 0 0) rfl (pv_fa (fa_ptr (c := 0) (off := 0) (i := 0) ti57 rfl ti9 rfl)) ?_
              refine wo_val (.str a3.Name) rfl (pv_load (ld_ptr hI rfl rfl rfl ti9 rfl)) ?_
              refine of_need fun hl4 => ?_
              refine wo_val (.str (a3.Name ++ [120])) rfl (pv_bin rfl rfl (bin_cat hl4)) ?_
              refine of_need fun hl5 => ?_
              refine wo_val (.str (x4 ++ (a3.Name ++ [120]))) rfl (pv_bin rfl rfl (bin_cat hl5)) ?_
              refine wo_val (.str (x4 ++ (a3.Name ++ [120]))) rfl pv_assign ?_
              refine wo_nil ?_
              refine wr_inBlock ?_
              refine wr_region ?_
              refine wo_val (.int .i64 (IntKind.wrap .i64 ((j2 : Int) + 1))) rfl (pv_bin rfl rfl rfl) ?_
              refine wo_val (.int .i64 (IntKind.wrap .i64 ((j2 : Int) + 1))) rfl pv_move ?_
              refine wo_nil ?_
              refine wr_drop [(some (.rows g 8 [(rAirspace a)])), (some (.rows g1 8 [(rAirspace r2.1)])), none, none, none, none, none, none, none, none, none, none, none, none, none, none, none] hI rfl (.keep (.keep (.keep (.keep (.drop (.keep (.keep (.keep (.keep (.keep (.keep (.keep (.keep (.keep (.keep (.keep (.keep .nil))))))))))))))))) ?_
              refine wr_is [(1, (.int .u8 b)), (2, (.ptr (ix ids 0) g 0 0)), (5, (.ptr (ix ids 1) g1 0 0)), (7, (.str (x4 ++ (a3.Name ++ [120])))), (73, (.sl 5 (List.map rSegment a.Segments))), (74, (.int .i64 (a.Segments.length : Int))), (75, (.int .i64 ((j2 + 1 : Nat) : Int)))] (.cons rfl (.cons rfl (.cons rfl (.cons rfl (.cons rfl (.cons rfl (.cons (inc_ok (lt_of_get ha3) hlim2) .nil))))))) ?_
              refine wb_S ?_
              refine hW2 (x4 ++ (a3.Name ++ [120])) _ _ ?_
              exact ⟨rfl, rfl⟩
            · rintro x4 fr h ⟨rfl, rfl⟩
              refine wr_seq ?_
              refine wr_region ?_
              refine wo_val (.bool (decide ((a.Segments.length : Int) < (a.Segments.length : Int)))) rfl (pv_bin rfl rfl rfl) ?_
              refine wo_nil ?_
              refine wr_seq ?_
              refine wr_condF rfl (Int.lt_irrefl _) ?_
              refine wr_exit rfl ?_
              refine wr_seq ?_
              refine wr_seq ?_
              refine wr_region ?_
              refine wo_val (.ptr (ix ids 0) g 0 6) rfl (pv_fa (fa_ptr (c := 0) (off := 6) (i := 6) ti31 rfl ti28 rfl)) ?_
              refine wo_val (.sl 4 (List.map rClass a.Classes)) rfl (pv_load (ld_ptr hI rfl rfl rfl ti28 rfl)) ?_
              refine wo_val (.int .i64 (a.Classes.length : Int)) rfl (pv_len (len_sl ti28)) ?_
              refine wo_val (.int .i64 0) rfl pv_move ?_
              refine wo_nil ?_
              refine wr_block ?_
              refine wr_is [(1, (.int .u8 b)), (2, (.ptr (ix ids 0) g 0 0)), (5, (.ptr (ix ids 1) g1 0 0)), (7, (.str x4)), (86, (.sl 4 (List.map rClass a.Classes))), (87, (.int .i64 (a.Classes.length : Int))), (88, (.int .i64 0))] (.cons rfl (.cons rfl (.cons rfl (.cons rfl (.cons rfl (.cons rfl (.cons rfl .nil))))))) ?_
              refine wf_eachS' a.Classes (fun _ a4 => fun x6 => law09_NamesMissing_b4 a4 x6) (((fun x6 => if (decide ((r2.1.Sectors.length : Int) > 0)) then
(if (r2.1.Sectors.length : Int) ≠ 0 then (idx r2.1.Sectors (Int.tmod (IntKind.wrap .i64 b) (r2.1.Sectors.length : Int))).bind fun a5 =>
  law09_NamesMissing_j7 a b r r2 x6 (decide ((a5.Volumes.length : Int) > 0)) else .bad)
else
(law09_NamesMissing_j7 a b r r2 x6 false))) : _ → R Bool)
                (fun j3 => fun x6 => fun (fr : Nat → AV) (h : AHeap) => fr = frA [(1, (.int .u8 b)), (2, (.ptr (ix ids 0) g 0 0)), (5, (.ptr (ix ids 1) g1 0 0)), (7, (.str x6)), (86, (.sl 4 (List.map rClass a.Classes))), (87, (.int .i64 (a.Classes.length : Int))), (88, (.int .i64 (j3 : Int)))] ∧ h = hp h0 ids [(some (.rows g 8 [(rAirspace a)])), (some (.rows g1 8 [(rAirspace r2.1)])), none, none, none, none, none, none, none, none, none, none, none, none, none, none, none]) x4 ?_ ?_ ?_
              · exact ⟨rfl, rfl⟩
              · rintro j3 a4 ha4 W hW3 x6 fr h ⟨rfl, rfl⟩
                refine wr_mod (m' := law09_NamesMissing_b4 a4 x6) rfl (wr_mod (law09_NamesMissing_b4.eq_1 _ _) ?_)
                refine wr_seq ?_
                refine wr_region ?_
                refine wo_val (.bool (decide ((j3 : Int) < (a.Classes.length : Int)))) rfl (pv_bin rfl rfl rfl) ?_
                refine wo_nil ?_
                refine wr_seq ?_
                refine wr_lim (t := 86) (L := a.Classes) rfl fun hlim3 => ?_
                refine wr_condT rfl (Int.ofNat_lt.2 (lt_of_get ha4)) ?_
                refine wr_skip ?_
                refine wr_seq ?_
                refine wr_block ?_
                refine wr_seq ?_
                refine wr_region ?_
                refine wo_val (.cp (rClass a4) 0) rfl (pv_ixa (ixa_nat ti28 ti43 rfl ha4)) ?_
                refine wo_val (.agg (rClass a4)) rfl (pv_load (ld_cp ti43 rfl)) ?_
                refine wo_alloc (j := 5) hI rfl rfl rfl rfl ti43 rfl fun g5 => ?_
                refine wo_store (st_ptr hI rfl rfl rfl rfl ti43 rfl rfl rfl rfl rfl) ?_
                refine wo_nil ?_
                refine wr_hp [(some (.rows g 8 [(rAirspace a)])), (some (.rows g1 8 [(rAirspace r2.1)])), none, none, none, (some (.rows g5 4 [(rClass a4)])), none, none, none, none, none, none, none, none, none, none, none] rfl ?_
                refine wr_region ?_
                refine wo_val (.str x6) rfl pv_move ?_
                refine wo_val (.ptr (ix ids 5) g5 0 0) rfl (pv_fa (fa_ptr (c := 0) (off := 0) (i := 0) ti43 rfl ti9 rfl)) ?_
                refine wo_val (.str a4.Name) rfl (pv_load (ld_ptr hI rfl rfl rfl ti9 rfl)) ?_
                refine of_need fun hl6 => ?_
                refine wo_val (.str (a4.Name ++ [120])) rfl (pv_bin rfl rfl (bin_cat hl6)) ?_
                refine of_need fun hl7 => ?_
                refine wo_val (.str (x6 ++ (a4.Name ++ [120]))) rfl (pv_bin rfl rfl (bin_cat hl7)) ?_
                refine wo_val (.str (x6 ++ (a4.Name ++ [120]))) rfl pv_assign ?_
                refine wo_nil ?_
                refine wr_inBlock ?_
                refine wr_region ?_
                refine wo_val (.int .i64 (IntKind.wrap .i64 ((j3 : Int) + 1))) rfl (pv_bin rfl rfl rfl) ?_
                refine wo_val (.int .i64 (IntKind.wrap .i64 ((j3 : Int) + 1))) rfl pv_move ?_
                refine wo_nil ?_
                refine wr_drop [(some (.rows g 8 [(rAirspace a)])), (some (.rows g1 8 [(rAirspace r2.1)])), none, none, none, none, none, none, none, none, none, none, none, none, none, none, none] hI rfl (.keep (.keep (.keep (.keep (.keep (.drop (.keep (.keep (.keep (.keep (.keep (.keep (.keep (.keep (.keep (.keep (.keep .nil))))))))))))))))) ?_
                refine wr_is [(1, (.int .u8 b)), (2, (.ptr (ix ids 0) g 0 0)), (5, (.ptr (ix ids 1) g1 0 0)), (7, (.str (x6 ++ (a4.Name ++ [120])))), (86, (.sl 4 (List.map rClass a.Classes))), (87, (.int .i64 (a.Classes.length : Int))), (88, (.int .i64 ((j3 + 1 : Nat) : Int)))] (.cons rfl (.cons rfl (.cons rfl (.cons rfl (.cons rfl (.cons rfl (.cons (inc_ok (lt_of_get ha4) hlim3) .nil))))))) ?_
                refine wb_S ?_
                refine hW3 (x6 ++ (a4.Name ++ [120])) _ _ ?_
                exact ⟨rfl, rfl⟩
              · rintro x6 fr h ⟨rfl, rfl⟩
                refine wr_seq ?_
                refine wr_region ?_
                refine wo_val (.bool (decide ((a.Classes.length : Int) < (a.Classes.length : Int)))) rfl (pv_bin rfl rfl rfl) ?_
                refine wo_nil ?_
                refine wr_seq ?_
                refine wr_condF rfl (Int.lt_irrefl _) ?_
                refine wr_exit rfl ?_
                refine wr_seq ?_
                refine wr_region ?_
                refine wo_val (.int .u8 b) rfl pv_move ?_
                refine wo_val (.int .i64 (IntKind.wrap .i64 b)) rfl (pv_conv (cv_int ti5 ti3)) ?_
                refine wo_val (.int .i64 (IntKind.wrap .i64 b)) rfl pv_assign ?_
                refine wo_nil ?_
                refine wr_seq ?_
                refine wr_region ?_
                refine wo_val .emp rfl pv_assign ?_
                refine wo_nil ?_
                refine wr_seq ?_
                refine wr_seq ?_
                refine wr_region ?_
                refine wo_val (.ptr (ix ids 1) g1 0 1) rfl (pv_fa (fa_ptr (c := 0) (off := 1) (i := 1) ti31 rfl ti23 rfl)) ?_
                refine wo_val (.sl 5 (List.map rSector r2.1.Sectors)) rfl (pv_load (ld_ptr hI rfl rfl rfl ti23 rfl)) ?_
                refine wo_val (.int .i64 (r2.1.Sectors.length : Int)) rfl (pv_len (len_sl ti23)) ?_
                refine wo_val (.int .i64 (r2.1.Sectors.length : Int)) rfl pv_assign ?_
                refine wo_nil ?_
                refine wr_seq ?_
                refine wf_join (fun x8 => law09_NamesMissing_j7 a b r r2 x6 x8) (fun x8 => fun (fr : Nat → AV) (h : AHeap) => fr = frA [(2, (.ptr (ix ids 0) g 0 0)), (5, (.ptr (ix ids 1) g1 0 0)), (7, (.str x6)), (16, (.int .i64 (IntKind.wrap .i64 b))), (17, .emp), (18, (.int .i64 (r2.1.Sectors.length : Int))), (116, (.bool x8))] ∧ h = hp h0 ids [(some (.rows g 8 [(rAirspace a)])), (some (.rows g1 8 [(rAirspace r2.1)])), none, none, none, none, none, none, none, none, none, none, none, none, none, none, none]) ?_ fun hJ10 => ?_
                · rintro x8 fr h ⟨rfl, rfl⟩
                  refine wr_mod (law09_NamesMissing_j7.eq_1 _ _ _ _ _ _) ?_
                  refine wf_join (fun x9 => law09_NamesMissing_j6 a b r r2 x6 x9) (fun x9 => fun (fr : Nat → AV) (h : AHeap) => ∃ (v2 : AV), ∃ (g9 : Nat), OwnV v2 (ix ids 8) g9 x9.length ∧ fr = frA [(2, (.ptr (ix ids 0) g 0 0)), (5, (.ptr (ix ids 1) g1 0 0)), (7, (.str x6)), (16, (.int .i64 (IntKind.wrap .i64 b))), (17, v2)] ∧ h = hp h0 ids [(some (.rows g 8 [(rAirspace a)])), (some (.rows g1 8 [(rAirspace r2.1)])), none, none, none, none, none, none, (ownO v2 g9 8 (List.map rAirspace x9)), none, none, none, none, none, none, none, none]) ?_ fun hJ9 => ?_
                  · rintro x9 fr h ⟨v2, g9, vH3, rfl, rfl⟩
                    refine wr_mod (law09_NamesMissing_j6.eq_1 _ _ _ _ _ _) ?_
                    refine wr_seq ?_
                    refine wr_seq ?_
                    refine wr_region ?_
                    refine wo_val (.ptr (ix ids 1) g1 0 2) rfl (pv_fa (fa_ptr (c := 0) (off := 2) (i := 2) ti31 rfl ti24 rfl)) ?_
                    refine wo_val (.sl 3 (List.map rConfig r2.1.Configs)) rfl (pv_load (ld_ptr hI rfl rfl rfl ti24 rfl)) ?_
                    refine wo_val (.int .i64 (r2.1.Configs.length : Int)) rfl (pv_len (len_sl ti24)) ?_
                    refine wo_val (.int .i64 (r2.1.Configs.length : Int)) rfl pv_assign ?_
                    refine wo_nil ?_
                    refine wr_seq ?_
                    refine wf_join (fun x10 => law09_NamesMissing_j5 a b r r2 x6 x9 x10) (fun x10 => fun (fr : Nat → AV) (h : AHeap) => fr = frA [(2, (.ptr (ix ids 0) g 0 0)), (5, (.ptr (ix ids 1) g1 0 0)), (7, (.str x6)), (16, (.int .i64 (IntKind.wrap .i64 b))), (17, v2), (21, (.int .i64 (r2.1.Configs.length : Int))), (169, (.bool x10))] ∧ h = hp h0 ids [(some (.rows g 8 [(rAirspace a)])), (some (.rows g1 8 [(rAirspace r2.1)])), none, none, none, none, none, none, (ownO v2 g9 8 (List.map rAirspace x9)), none, none, none, none, none, none, none, none]) ?_ fun hJ8 => ?_
                    · rintro x10 fr h ⟨rfl, rfl⟩
                      refine wr_mod (law09_NamesMissing_j5.eq_1 _ _ _ _ _ _ _) ?_
                      refine wf_join (fun x11 => law09_NamesMissing_j4 a b r r2 x6 x11) (fun x11 => fun (fr : Nat → AV) (h : AHeap) => ∃ (v5 : AV), ∃ (g13 : Nat), OwnV v5 (ix ids 8) g13 x11.length ∧ fr = frA [(2, (.ptr (ix ids 0) g 0 0)), (5, (.ptr (ix ids 1) g1 0 0)), (7, (.str x6)), (16, (.int .i64 (IntKind.wrap .i64 b))), (17, v5)] ∧ h = hp h0 ids [(some (.rows g 8 [(rAirspace a)])), (some (.rows g1 8 [(rAirspace r2.1)])), none, none, none, none, none, none, (ownO v5 g13 8 (List.map rAirspace x11)), none, none, none, none, none, none, none, none]) ?_ fun hJ7 => ?_
                      · rintro x11 fr h ⟨v5, g13, vH7, rfl, rfl⟩
                        refine wr_mod (law09_NamesMissing_j4.eq_1 _ _ _ _ _ _) ?_
                        refine wr_seq ?_
                        refine wr_seq ?_
                        refine wr_region ?_
                        refine wo_val (.ptr (ix ids 1) g1 0 4) rfl (pv_fa (fa_ptr (c := 0) (off := 4) (i := 4) ti31 rfl ti26 rfl)) ?_
                        refine wo_val (.sl 7 (List.map rRoute r2.1.Routes)) rfl (pv_load (ld_ptr hI rfl rfl rfl ti26 rfl)) ?_
                        refine wo_val (.int .i64 (r2.1.Routes.length : Int)) rfl (pv_len (len_sl ti26)) ?_
                        refine wo_val (.int .i64 (r2.1.Routes.length : Int)) rfl pv_assign ?_
                        refine wo_nil ?_
                        refine wr_seq ?_
                        refine wf_join (fun x12 => law09_NamesMissing_j3 a b r r2 x6 x11 x12) (fun x12 => fun (fr : Nat → AV) (h : AHeap) => fr = frA [(2, (.ptr (ix ids 0) g 0 0)), (5, (.ptr (ix ids 1) g1 0 0)), (7, (.str x6)), (16, (.int .i64 (IntKind.wrap .i64 b))), (17, v5), (24, (.int .i64 (r2.1.Routes.length : Int))), (222, (.bool x12))] ∧ h = hp h0 ids [(some (.rows g 8 [(rAirspace a)])), (some (.rows g1 8 [(rAirspace r2.1)])), none, none, none, none, none, none, (ownO v5 g13 8 (List.map rAirspace x11)), none, none, none, none, none, none, none, none]) ?_ fun hJ6 => ?_
                        · rintro x12 fr h ⟨rfl, rfl⟩
                          refine wr_mod (law09_NamesMissing_j3.eq_1 _ _ _ _ _ _ _) ?_
                          refine wf_join (fun x13 => law09_NamesMissing_j2 a b r r2 x6 x13) (fun x13 => fun (fr : Nat → AV) (h : AHeap) => ∃ (v8 : AV), ∃ (g17 : Nat), OwnV v8 (ix ids 8) g17 x13.length ∧ fr = frA [(2, (.ptr (ix ids 0) g 0 0)), (5, (.ptr (ix ids 1) g1 0 0)), (7, (.str x6)), (16, (.int .i64 (IntKind.wrap .i64 b))), (17, v8)] ∧ h = hp h0 ids [(some (.rows g 8 [(rAirspace a)])), (some (.rows g1 8 [(rAirspace r2.1)])), none, none, none, none, none, none, (ownO v8 g17 8 (List.map rAirspace x13)), none, none, none, none, none, none, none, none]) ?_ fun hJ5 => ?_
                          · rintro x13 fr h ⟨v8, g17, vH11, rfl, rfl⟩
                            refine wr_mod (law09_NamesMissing_j2.eq_1 _ _ _ _ _ _) ?_
                            refine wr_seq ?_
                            refine wr_seq ?_
                            refine wr_region ?_
                            refine wo_val (.ptr (ix ids 1) g1 0 7) rfl (pv_fa (fa_ptr (c := 0) (off := 7) (i := 7) ti31 rfl ti29 rfl)) ?_
                            refine wo_val (.sl 8 (List.map rRule r2.1.Rules)) rfl (pv_load (ld_ptr hI rfl rfl rfl ti29 rfl)) ?_
                            refine wo_val (.int .i64 (r2.1.Rules.length : Int)) rfl (pv_len (len_sl ti29)) ?_
                            refine wo_val (.int .i64 (r2.1.Rules.length : Int)) rfl pv_assign ?_
                            refine wo_nil ?_
                            refine wr_seq ?_
                            refine wr_region ?_
                            refine wo_val (.int .i64 (r2.1.Rules.length : Int)) rfl pv_move ?_
                            refine wo_val (.bool (decide ((r2.1.Rules.length : Int) > 0))) rfl (pv_bin rfl rfl rfl) ?_
                            refine wo_nil ?_
                            refine wf_join (fun x14 => law09_NamesMissing_j1 r x14) (fun x14 => fun (fr : Nat → AV) (h : AHeap) => ∃ (v11 : AV), ∃ (g21 : Nat), OwnV v11 (ix ids 8) g21 x14.length ∧ fr = frA [(17, v11)] ∧ h = hp h0 ids [none, none, none, none, none, none, none, none, (ownO v11 g21 8 (List.map rAirspace x14)), none, none, none, none, none, none, none, none]) ?_ fun hJ4 => ?_
                            · rintro x14 fr h ⟨v11, g21, vH15, rfl, rfl⟩
                              refine wr_mod (law09_NamesMissing_j1.eq_1 _ _) ?_
                              refine wr_seq ?_
                              refine wr_seq ?_
                              refine wr_region ?_
                              refine wo_val v11 rfl pv_move ?_
                              refine wo_val (.int .i64 (x14.length : Int)) rfl (pv_len (OwnV.len vH15 ti64)) ?_
                              refine wo_val (.int .i64 0) rfl pv_move ?_
                              refine wo_nil ?_
                              refine wr_block ?_
                              refine wr_limo (t := 17) rfl vH15 fun hlim4 => ?_
                              refine wr_is [(298, v11), (299, (.int .i64 (x14.length : Int))), (300, (.int .i64 0))] (.cons rfl (.cons rfl (.cons rfl .nil))) ?_
                              refine wf_each' x14 (fun j4 _ => fun x16 => law09_NamesMissing_b5 j4 x16) ((alt (fun x16 => .ok true) (fun r => .ok r)) : _ → R Bool)
                                (fun j4 => fun x16 => fun (fr : Nat → AV) (h : AHeap) => ∃ (v12 : AV), ∃ (g22 : Nat), OwnV v12 (ix ids 8) g22 x16.length ∧ fr = frA [(298, v12), (299, (.int .i64 (x14.length : Int))), (300, (.int .i64 (j4 : Int)))] ∧ h = hp h0 ids [none, none, none, none, none, none, none, none, (ownO v12 g22 8 (List.map rAirspace x16)), none, none, none, none, none, none, none, none]) x14 ?_ ?_ ?_
                              · exact ⟨v11, g21, vH15, rfl, rfl⟩
                              · rintro j4 a19 ha19 W hW4 x16 fr h ⟨v12, g22, vH16, rfl, rfl⟩
                                refine wr_mod (m' := law09_NamesMissing_b5 j4 x16) rfl (wr_mod (law09_NamesMissing_b5.eq_1 _ _) ?_)
                                refine wr_seq ?_
                                refine wr_region ?_
                                refine wo_val (.bool (decide ((j4 : Int) < (x14.length : Int)))) rfl (pv_bin rfl rfl rfl) ?_
                                refine wo_nil ?_
                                refine wr_seq ?_
                                refine wr_condT rfl (Int.ofNat_lt.2 (lt_of_get ha19)) ?_
                                refine wr_skip ?_
                                refine wr_seq ?_
                                refine wr_block ?_
                                refine wr_seq ?_
                                refine wr_region ?_
                                refine of_idx fun a20 hz21 hx19 => ?_
                                refine wo_val (.ptr (ix ids 8) g22 (j4 : Int).toNat 0) rfl (pv_ixa (ixa_own hI rfl vH16 rfl ti64 ti31 rfl hz21 hx19)) ?_
                                refine wo_val (.agg (rAirspace a20)) rfl (pv_load (ld_own hI rfl vH16 rfl hx19 ti31 rfl)) ?_
                                refine wo_alloc (j := 15) hI rfl rfl rfl rfl ti31 rfl fun g23 => ?_
                                refine wo_store (st_ptr hI rfl rfl rfl rfl ti31 rfl rfl rfl rfl rfl) ?_
                                refine wo_nil ?_
                                refine wr_hp [none, none, none, none, none, none, none, none, (ownO v12 g22 8 (List.map rAirspace x16)), none, none, none, none, none, none, (some (.rows g23 8 [(rAirspace a20)])), none] rfl ?_
                                refine wr_seq ?_
                                refine wr_region ?_
                                refine wo_val (.agg (rAirspace a20)) rfl (pv_load (ld_ptr hI rfl rfl rfl ti31 rfl)) ?_
                                refine of_call [(.agg (rAirspace a20))] rfl rfl rfl rfl ((cp_names_Resolve a20) _) (fun v _ => wu_pan Try.func8 hI) fun r3 _ => ?_
                                refine wo_val (.tup [(.agg (rAirspace r3.1)), (.int .i64 r3.2)]) rfl pv_move ?_
                                refine wo_val (.agg (rAirspace r3.1)) rfl (pv_ext rfl) ?_
                                refine wo_val (.int .i64 r3.2) rfl (pv_ext rfl) ?_
                                refine wo_alloc (j := 16) hI rfl rfl rfl rfl ti31 rfl fun g24 => ?_
                                refine wo_store (st_ptr hI rfl rfl rfl rfl ti31 rfl rfl rfl rfl rfl) ?_
                                refine wo_val (.int .i64 r3.2) rfl pv_assign ?_
                                refine wo_nil ?_
                                refine wr_hp [none, none, none, none, none, none, none, none, (ownO v12 g22 8 (List.map rAirspace x16)), none, none, none, none, none, none, (some (.rows g23 8 [(rAirspace a20)])), (some (.rows g24 8 [(rAirspace r3.1)]))] rfl ?_
                                refine wr_seq ?_
                                refine wr_region ?_
                                refine wo_val (.int .i64 r3.2) rfl pv_move ?_
                                refine wo_val (.bool (r3.2 != 90)) rfl (pv_bin rfl rfl rfl) ?_
                                refine wo_nil ?_
                                refine wf_iteb rfl (fun hc11 => ?_) (fun hc11 => ?_)
                                · refine wr_seq ?_
                                  refine wr_region ?_
                                  refine wo_val (.bool false) rfl pv_assign ?_
                                  refine wo_nil ?_
                                  refine wx_each ?_
                                  refine w_altr ?_
                                  exact wr_ret (a := false) (vs := [(.bool false)]) Try.func8 hI rfl (.same _)
                                · refine wr_skip ?_
                                  refine wr_inBlock ?_
                                  refine wr_region ?_
                                  refine wo_val (.int .i64 (IntKind.wrap .i64 ((j4 : Int) + 1))) rfl (pv_bin rfl rfl rfl) ?_
                                  refine wo_val (.int .i64 (IntKind.wrap .i64 ((j4 : Int) + 1))) rfl pv_move ?_
                                  refine wo_nil ?_
                                  refine wr_drop [none, none, none, none, none, none, none, none, (ownO v12 g22 8 (List.map rAirspace x16)), none, none, none, none, none, none, none, none] hI rfl (.keep (.keep (.keep (.keep (.keep (.keep (.keep (.keep (.keep (.keep (.keep (.keep (.keep (.keep (.keep (.drop (.drop .nil))))))))))))))))) ?_
                                  refine wr_is [(298, v12), (299, (.int .i64 (x14.length : Int))), (300, (.int .i64 ((j4 + 1 : Nat) : Int)))] (.cons rfl (.cons rfl (.cons (inc_ok (lt_of_get ha19) hlim4) .nil))) ?_
                                  refine wb_each ?_
                                  refine hW4 x16 _ _ ?_
                                  exact ⟨v12, g22, vH16, rfl, rfl⟩
                              · rintro x16 fr h ⟨v12, g22, vH16, rfl, rfl⟩
                                refine wr_mod (alt_inl _ _ _) ?_
                                refine wr_seq ?_
                                refine wr_region ?_
                                refine wo_val (.bool (decide ((x14.length : Int) < (x14.length : Int)))) rfl (pv_bin rfl rfl rfl) ?_
                                refine wo_nil ?_
                                refine wr_seq ?_
                                refine wr_condF rfl (Int.lt_irrefl _) ?_
                                refine wr_exit rfl ?_
                                refine wr_seq ?_
                                refine wr_region ?_
                                refine wo_val (.bool true) rfl pv_assign ?_
                                refine wo_nil ?_
                                exact wr_ret (a := true) (vs := [(.bool true)]) Try.func8 hI rfl (.same _)
                            · refine wf_ite rfl (fun hc9 => ?_) (fun hc9 => ?_)
                              · refine wr_seq ?_
                                refine wr_region ?_
                                refine wo_val (.agg (rAirspace a)) rfl (pv_load (ld_ptr hI rfl rfl rfl ti31 rfl)) ?_
                                refine wo_alloc (j := 13) hI rfl rfl rfl rfl ti31 rfl fun g18 => ?_
                                refine wo_store (st_ptr hI rfl rfl rfl rfl ti31 rfl rfl rfl rfl rfl) ?_
                                refine wo_nil ?_
                                refine wr_hp [(some (.rows g 8 [(rAirspace a)])), (some (.rows g1 8 [(rAirspace r2.1)])), none, none, none, none, none, none, (ownO v8 g17 8 (List.map rAirspace x13)), none, none, none, none, (some (.rows g18 8 [(rAirspace a)])), none, none, none] rfl ?_
                                refine wr_seq ?_
                                refine wr_region ?_
                                refine wo_bs0 rfl ti28 ti43 ?_
                                refine wo_val (.ptr (ix ids 0) g 0 6) rfl (pv_fa (fa_ptr (c := 0) (off := 6) (i := 6) ti31 rfl ti28 rfl)) ?_
                                refine wo_val (.sl 4 (List.map rClass a.Classes)) rfl (pv_load (ld_ptr hI rfl rfl rfl ti28 rfl)) ?_
                                refine of_need fun hl17 => ?_
                                refine wo_append (e := rClass) (L := ([] : List Class)) (L2 := a.Classes) (v := .emp) (g := 0) (st := 4) (j := 14) hI rfl rfl rfl rfl .nil rfl (src_sl rfl) ti28 ti28 rfl ti43 rfl rfl rfl (by simpa using hl17) fun v9 g19 vH12 => ?_
                                refine wo_val (.ptr (ix ids 13) g18 0 6) rfl (pv_fa (fa_ptr (c := 0) (off := 6) (i := 6) ti31 rfl ti28 rfl)) ?_
                                refine wo_store (st_ptrO vH12 hI rfl rfl rfl rfl ti28 rfl rfl rfl) ?_
                                refine wo_nil ?_
                                refine wr_hp [(some (.rows g 8 [(rAirspace a)])), (some (.rows g1 8 [(rAirspace r2.1)])), none, none, none, none, none, none, (ownO v8 g17 8 (List.map rAirspace x13)), none, none, none, none, (some (.rows g18 8 [[(.sl 2 (List.map rVolume a.Volumes)), (.sl 5 (List.map rSector a.Sectors)), (.sl 3 (List.map rConfig a.Configs)), (.sl 5 (List.map rSegment a.Segments)), (.sl 7 (List.map rRoute a.Routes)), (.sl 2 (List.map rAirport a.Airports)), v9, (.sl 8 (List.map rRule a.Rules))]])), (ownO v9 g19 4 (List.map rClass a.Classes)), none, none] rfl ?_
                                refine wr_seq ?_
                                refine wr_draw hmix [[], [0], [], [], [2, 3], [0, 1, 2, 3, 4], [0, 1, 2, 3, 4, 5], [0, 1, 2, 3, 4, 5, 6], [0, 1, 2, 3, 4, 5, 6, 7, 7]] [(false, 0), (false, 1), (false, 2), (false, 3), (false, 4), (false, 5), (false, 6), (false, 7), (false, 8)] (by kernel_rfl) ?_
                                refine wp_val (.ptr (ix ids 1) g1 0 7) rfl rfl (pv_fa (fa_ptr (c := 0) (off := 7) (i := 7) ti31 rfl ti29 rfl)) ?_
                                refine wp_val (.sl 8 (List.map rRule r2.1.Rules)) rfl rfl (pv_load (ld_ptr hI rfl rfl rfl ti29 rfl)) ?_
                                refine wp_val (.int .i64 (IntKind.wrap .i64 b)) rfl rfl pv_move ?_
                                refine wp_val (.int .i64 (r2.1.Rules.length : Int)) rfl rfl pv_move ?_
                                refine op_need fun hz18 => ?_
                                refine wp_val (.int .i64 (Int.tmod (IntKind.wrap .i64 b) (r2.1.Rules.length : Int))) rfl rfl (pv_bin rfl rfl (bin_rem rfl hz18)) ?_
                                refine op_idx fun a17 hz19 hx16 => ?_
                                refine wp_val (.cp (rRule a17) 0) rfl rfl (pv_ixa (ixa_sl ti29 ti63 rfl hz19 hx16)) ?_
                                refine wp_val (.cp (rRule a17) 3) rfl rfl (pv_fa (fa_cp (c := 0) (off := 3) (i := 3) ti63 rfl ti3 rfl)) ?_
                                refine wp_val (.int .i64 a17.Class) rfl rfl (pv_load (ld_cp ti3 rfl)) ?_
                                refine wp_val (.int .i64 a17.Class) rfl rfl pv_assign ?_
                                refine wp_nil ?_
                                refine wr_seq ?_
                                refine wr_region ?_
                                refine wo_val (.int .i64 a17.Class) rfl pv_move ?_
                                refine wo_val (.bool (decide (a17.Class ≥ 0))) rfl (pv_bin rfl rfl rfl) ?_
                                refine wo_val (.bool (decide (a17.Class ≥ 0))) rfl pv_move ?_
                                refine wo_meet 6 [(7, (.str x6)), (17, v8), (28, (.ptr (ix ids 13) g18 0 0)), (29, (.int .i64 a17.Class)), (286, (.bool ((decide (a17.Class ≥ 0)) && (decide (a17.Class < (a.Classes.length : Int))))))] ?_ fun hJ3 => wo_cases (decide (a17.Class ≥ 0)) (fun hb10 => ?_) (fun hb10 => ?_)
                                · refine wo_nil ?_
                                  refine wf_iteb rfl (fun hc10 => ?_) (fun hc10 => ?_)
                                  · refine wr_seq ?_
                                    refine wr_region ?_
                                    refine wo_val (.ptr (ix ids 13) g18 0 6) rfl (pv_fa (fa_ptr (c := 0) (off := 6) (i := 6) ti31 rfl ti28 rfl)) ?_
                                    refine wo_val v9 rfl (pv_load (ld_ptr hI rfl rfl rfl ti28 rfl)) ?_
                                    refine wo_val (.int .i64 a17.Class) rfl pv_move ?_
                                    refine wo_val (.str x6) rfl pv_move ?_
                                    refine of_need fun hl18 => ?_
                                    refine wo_val (.str (x6 ++ [99, 108, 97, 115, 115])) rfl (pv_bin rfl rfl (bin_cat hl18)) ?_
                                    refine of_idx fun a18 hz20 hx17 => ?_
                                    refine wo_val (.ptr (ix ids 14) g19 a17.Class.toNat 0) rfl (pv_ixa (ixa_own hI rfl vH12 rfl ti28 ti43 rfl hz20 hx17)) ?_
                                    refine wo_val (.ptr (ix ids 14) g19 a17.Class.toNat 0) rfl (pv_fa (fa_ptr (c := 0) (off := 0) (i := 0) ti43 rfl ti9 rfl)) ?_
                                    refine wo_store (st_own (y := { a18 with Name := (x6 ++ [99, 108, 97, 115, 115]) }) hI rfl rfl vH12 rfl hx17 ti9 rfl rfl rfl rfl rfl rfl) ?_
                                    have vH13 := OwnV.set (i := a17.Class.toNat) (y := { a18 with Name := (x6 ++ [99, 108, 97, 115, 115]) }) vH12
                                    have hx18 := List.getElem?_set_self (a := { a18 with Name := (x6 ++ [99, 108, 97, 115, 115]) }) (lt_of_get hx17)
                                    refine wo_nil ?_
                                    refine wr_hp [(some (.rows g 8 [(rAirspace a)])), (some (.rows g1 8 [(rAirspace r2.1)])), none, none, none, none, none, none, (ownO v8 g17 8 (List.map rAirspace x13)), none, none, none, none, (some (.rows g18 8 [[(.sl 2 (List.map rVolume a.Volumes)), (.sl 5 (List.map rSector a.Sectors)), (.sl 3 (List.map rConfig a.Configs)), (.sl 5 (List.map rSegment a.Segments)), (.sl 7 (List.map rRoute a.Routes)), (.sl 2 (List.map rAirport a.Airports)), v9, (.sl 8 (List.map rRule a.Rules))]])), (ownO v9 g19 4 (List.map rClass (a.Classes.set a17.Class.toNat { a18 with Name := (x6 ++ [99, 108, 97, 115, 115]) }))), none, none] rfl ?_
                                    refine wr_region ?_
                                    refine wo_val v8 rfl pv_move ?_
                                    refine wo_val (.agg [(.sl 2 (List.map rVolume a.Volumes)), (.sl 5 (List.map rSector a.Sectors)), (.sl 3 (List.map rConfig a.Configs)), (.sl 5 (List.map rSegment a.Segments)), (.sl 7 (List.map rRoute a.Routes)), (.sl 2 (List.map rAirport a.Airports)), v9, (.sl 8 (List.map rRule a.Rules))]) rfl (pv_load (ld_ptr hI rfl rfl rfl ti31 rfl)) ?_
                                    refine wo_frz (h2 := hp h0 ids [(some (.rows g 8 [(rAirspace a)])), (some (.rows g1 8 [(rAirspace r2.1)])), none, none, none, none, none, none, (ownO v8 g17 8 (List.map rAirspace x13)), none, none, none, none, none, none, none, none]) [(294, v8), (295, (.agg (rAirspace ({ Volumes := a.Volumes, Sectors := a.Sectors, Configs := a.Configs, Segments := a.Segments, Routes := a.Routes, Airports := a.Airports, Classes := (a.Classes.set a17.Class.toNat { a18 with Name := (x6 ++ [99, 108, 97, 115, 115]) }), Rules := a.Rules } : Airspace))))] (Drops.sub (.keep (.keep (.keep (.keep (.keep (.keep (.keep (.keep (.keep (.keep (.keep (.keep (.keep (.drop (.drop (.keep (.keep .nil))))))))))))))))) hI.len) (.cons (.same _) (.cons (.aggL (.cons (.same _) (.cons (.same _) (.cons (.same _) (.cons (.same _) (.cons (.same _) (.cons (.same _) (.cons (own_fz vH13 (hI.at rfl rfl) (hI.at rfl rfl) (fun x => ok_Class x)) (.cons (.same _) .nil))))))))) .nil)) rfl rfl ?_
                                    refine wo_bsC (e := rAirspace) (L := [({ Volumes := a.Volumes, Sectors := a.Sectors, Configs := a.Configs, Segments := a.Segments, Routes := a.Routes, Airports := a.Airports, Classes := (a.Classes.set a17.Class.toNat { a18 with Name := (x6 ++ [99, 108, 97, 115, 115]) }), Rules := a.Rules } : Airspace)]) (st := 8) (rows := [[(.sl 2 (List.map rVolume ({ Volumes := a.Volumes, Sectors := a.Sectors, Configs := a.Configs, Segments := a.Segments, Routes := a.Routes, Airports := a.Airports, Classes := (a.Classes.set a17.Class.toNat { a18 with Name := (x6 ++ [99, 108, 97, 115, 115]) }), Rules := a.Rules } : Airspace).Volumes)), (.sl 5 (List.map rSector ({ Volumes := a.Volumes, Sectors := a.Sectors, Configs := a.Configs, Segments := a.Segments, Routes := a.Routes, Airports := a.Airports, Classes := (a.Classes.set a17.Class.toNat { a18 with Name := (x6 ++ [99, 108, 97, 115, 115]) }), Rules := a.Rules } : Airspace).Sectors)), (.sl 3 (List.map rConfig ({ Volumes := a.Volumes, Sectors := a.Sectors, Configs := a.Configs, Segments := a.Segments, Routes := a.Routes, Airports := a.Airports, Classes := (a.Classes.set a17.Class.toNat { a18 with Name := (x6 ++ [99, 108, 97, 115, 115]) }), Rules := a.Rules } : Airspace).Configs)), (.sl 5 (List.map rSegment ({ Volumes := a.Volumes, Sectors := a.Sectors, Configs := a.Configs, Segments := a.Segments, Routes := a.Routes, Airports := a.Airports, Classes := (a.Classes.set a17.Class.toNat { a18 with Name := (x6 ++ [99, 108, 97, 115, 115]) }), Rules := a.Rules } : Airspace).Segments)), (.sl 7 (List.map rRoute ({ Volumes := a.Volumes, Sectors := a.Sectors, Configs := a.Configs, Segments := a.Segments, Routes := a.Routes, Airports := a.Airports, Classes := (a.Classes.set a17.Class.toNat { a18 with Name := (x6 ++ [99, 108, 97, 115, 115]) }), Rules := a.Rules } : Airspace).Routes)), (.sl 2 (List.map rAirport ({ Volumes := a.Volumes, Sectors := a.Sectors, Configs := a.Configs, Segments := a.Segments, Routes := a.Routes, Airports := a.Airports, Classes := (a.Classes.set a17.Class.toNat { a18 with Name := (x6 ++ [99, 108, 97, 115, 115]) }), Rules := a.Rules } : Airspace).Airports)), (.sl 4 (List.map rClass ({ Volumes := a.Volumes, Sectors := a.Sectors, Configs := a.Configs, Segments := a.Segments, Routes := a.Routes, Airports := a.Airports, Classes := (a.Classes.set a17.Class.toNat { a18 with Name := (x6 ++ [99, 108, 97, 115, 115]) }), Rules := a.Rules } : Airspace).Classes)), (.sl 8 (List.map rRule ({ Volumes := a.Volumes, Sectors := a.Sectors, Configs := a.Configs, Segments := a.Segments, Routes := a.Routes, Airports := a.Airports, Classes := (a.Classes.set a17.Class.toNat { a18 with Name := (x6 ++ [99, 108, 97, 115, 115]) }), Rules := a.Rules } : Airspace).Rules))]]) rfl ti64 ti31 rfl rfl rfl rfl rfl (.cons (RowSim.refl _) .nil) (fun x => ok_Airspace x) rfl rfl ?_
                                    refine of_need fun hl19 => ?_
                                    refine wo_append (e := rAirspace) (L := x13) (L2 := [({ Volumes := a.Volumes, Sectors := a.Sectors, Configs := a.Configs, Segments := a.Segments, Routes := a.Routes, Airports := a.Airports, Classes := (a.Classes.set a17.Class.toNat { a18 with Name := (x6 ++ [99, 108, 97, 115, 115]) }), Rules := a.Rules } : Airspace)]) (v := v8) (g := g17) (st := 8) (j := 8) hI rfl rfl rfl rfl vH11 rfl (src_sl rfl) ti64 ti64 rfl ti31 rfl rfl rfl hl19 fun v10 g20 vH14 => ?_
                                    refine wo_val v10 rfl pv_assign ?_
                                    refine wo_nil ?_
                                    refine wr_hp [(some (.rows g 8 [(rAirspace a)])), (some (.rows g1 8 [(rAirspace r2.1)])), none, none, none, none, none, none, (ownO v10 g20 8 (List.map rAirspace (x13 ++ [({ Volumes := a.Volumes, Sectors := a.Sectors, Configs := a.Configs, Segments := a.Segments, Routes := a.Routes, Airports := a.Airports, Classes := (a.Classes.set a17.Class.toNat { a18 with Name := (x6 ++ [99, 108, 97, 115, 115]) }), Rules := a.Rules } : Airspace)]))), none, none, none, none, none, none, none, none] rfl ?_
                                    refine wr_drop [none, none, none, none, none, none, none, none, (ownO v10 g20 8 (List.map rAirspace (x13 ++ [({ Volumes := a.Volumes, Sectors := a.Sectors, Configs := a.Configs, Segments := a.Segments, Routes := a.Routes, Airports := a.Airports, Classes := (a.Classes.set a17.Class.toNat { a18 with Name := (x6 ++ [99, 108, 97, 115, 115]) }), Rules := a.Rules } : Airspace)]))), none, none, none, none, none, none, none, none] hI rfl (.drop (.drop (.keep (.keep (.keep (.keep (.keep (.keep (.keep (.keep (.keep (.keep (.keep (.keep (.keep (.keep (.keep .nil))))))))))))))))) ?_
                                    refine wr_is [(17, v10)] (.cons rfl .nil) ?_
                                    refine hJ4 (x13 ++ [({ Volumes := a.Volumes, Sectors := a.Sectors, Configs := a.Configs, Segments := a.Segments, Routes := a.Routes, Airports := a.Airports, Classes := (a.Classes.set a17.Class.toNat { a18 with Name := (x6 ++ [99, 108, 97, 115, 115]) }), Rules := a.Rules } : Airspace)]) _ _ ?_
                                    exact ⟨v10, g20, vH14, rfl, rfl⟩
                                  · refine wr_skip ?_
                                    refine wr_drop [none, none, none, none, none, none, none, none, (ownO v8 g17 8 (List.map rAirspace x13)), none, none, none, none, none, none, none, none] hI rfl (.drop (.drop (.keep (.keep (.keep (.keep (.keep (.keep (.keep (.keep (.keep (.keep (.keep (.drop (.drop (.keep (.keep .nil))))))))))))))))) ?_
                                    refine wr_is [(17, v8)] (.cons rfl .nil) ?_
                                    refine hJ4 x13 _ _ ?_
                                    exact ⟨v8, g17, vH11, rfl, rfl⟩
                                · refine wo_valg (tj := 280) (.int .i64 a17.Class) rfl (congrArg AV.bool hb10) rfl pv_move ?_
                                  refine wo_valg (tj := 280) (.ptr (ix ids 13) g18 0 6) rfl (congrArg AV.bool hb10) rfl (pv_fa (fa_ptr (c := 0) (off := 6) (i := 6) ti31 rfl ti28 rfl)) ?_
                                  refine wo_valg (tj := 280) v9 rfl (congrArg AV.bool hb10) rfl (pv_load (ld_ptr hI rfl rfl rfl ti28 rfl)) ?_
                                  refine wo_valg (tj := 280) (.int .i64 (a.Classes.length : Int)) rfl (congrArg AV.bool hb10) rfl (pv_len (OwnV.len vH12 ti28)) ?_
                                  refine wo_valg (tj := 280) (.bool (decide (a17.Class < (a.Classes.length : Int)))) rfl (congrArg AV.bool hb10) rfl (pv_bin rfl rfl rfl) ?_
                                  refine wo_val (.bool (decide (a17.Class < (a.Classes.length : Int)))) rfl (pv_pick (t := true) (congrArg AV.bool hb10) rfl) ?_
                                  exact wo_is [(7, (.str x6)), (17, v8), (28, (.ptr (ix ids 13) g18 0 0)), (29, (.int .i64 a17.Class)), (286, (.bool ((decide (a17.Class ≥ 0)) && (decide (a17.Class < (a.Classes.length : Int))))))] (.cons rfl (.cons rfl (.cons rfl (.cons rfl (.cons (and_t hb10) .nil))))) hJ3
                                · refine wo_not (tj := 280) (b := false) rfl (congrArg AV.bool hb10) rfl rfl ?_
                                  refine wo_not (tj := 280) (b := false) rfl (congrArg AV.bool hb10) rfl rfl ?_
                                  refine wo_not (tj := 280) (b := false) rfl (congrArg AV.bool hb10) rfl rfl ?_
                                  refine wo_not (tj := 280) (b := false) rfl (congrArg AV.bool hb10) rfl rfl ?_
                                  refine wo_not (tj := 280) (b := false) rfl (congrArg AV.bool hb10) rfl rfl ?_
                                  refine wo_val (.bool false) rfl (pv_pick (t := false) (congrArg AV.bool hb10) rfl) ?_
                                  exact wo_is [(7, (.str x6)), (17, v8), (28, (.ptr (ix ids 13) g18 0 0)), (29, (.int .i64 a17.Class)), (286, (.bool ((decide (a17.Class ≥ 0)) && (decide (a17.Class < (a.Classes.length : Int))))))] (.cons rfl (.cons rfl (.cons rfl (.cons rfl (.cons (and_f hb10) .nil))))) hJ3
                              · refine wr_skip ?_
                                refine wr_drop [none, none, none, none, none, none, none, none, (ownO v8 g17 8 (List.map rAirspace x13)), none, none, none, none, none, none, none, none] hI rfl (.drop (.drop (.keep (.keep (.keep (.keep (.keep (.keep (.keep (.keep (.keep (.keep (.keep (.keep (.keep (.keep (.keep .nil))))))))))))))))) ?_
                                refine wr_is [(17, v8)] (.cons rfl .nil) ?_
                                refine hJ4 x13 _ _ ?_
                                exact ⟨v8, g17, vH11, rfl, rfl⟩
                          · refine wf_iteb rfl (fun hc7 => ?_) (fun hc7 => ?_)
                            · refine wr_seq ?_
                              refine wr_region ?_
                              refine wo_val (.agg (rAirspace a)) rfl (pv_load (ld_ptr hI rfl rfl rfl ti31 rfl)) ?_
                              refine wo_alloc (j := 11) hI rfl rfl rfl rfl ti31 rfl fun g14 => ?_
                              refine wo_store (st_ptr hI rfl rfl rfl rfl ti31 rfl rfl rfl rfl rfl) ?_
                              refine wo_nil ?_
                              refine wr_hp [(some (.rows g 8 [(rAirspace a)])), (some (.rows g1 8 [(rAirspace r2.1)])), none, none, none, none, none, none, (ownO v5 g13 8 (List.map rAirspace x11)), none, none, (some (.rows g14 8 [(rAirspace a)])), none, none, none, none, none] rfl ?_
                              refine wr_seq ?_
                              refine wr_region ?_
                              refine wo_bs0 rfl ti25 ti57 ?_
                              refine wo_val (.ptr (ix ids 0) g 0 3) rfl (pv_fa (fa_ptr (c := 0) (off := 3) (i := 3) ti31 rfl ti25 rfl)) ?_
                              refine wo_val (.sl 5 (List.map rSegment a.Segments)) rfl (pv_load (ld_ptr hI rfl rfl rfl ti25 rfl)) ?_
                              refine of_need fun hl14 => ?_
                              refine wo_append (e := rSegment) (L := ([] : List Segment)) (L2 := a.Segments) (v := .emp) (g := 0) (st := 5) (j := 12) hI rfl rfl rfl rfl .nil rfl (src_sl rfl) ti25 ti25 rfl ti57 rfl rfl rfl (by simpa using hl14) fun v6 g15 vH8 => ?_
                              refine wo_val (.ptr (ix ids 11) g14 0 3) rfl (pv_fa (fa_ptr (c := 0) (off := 3) (i := 3) ti31 rfl ti25 rfl)) ?_
                              refine wo_store (st_ptrO vH8 hI rfl rfl rfl rfl ti25 rfl rfl rfl) ?_
                              refine wo_nil ?_
                              refine wr_hp [(some (.rows g 8 [(rAirspace a)])), (some (.rows g1 8 [(rAirspace r2.1)])), none, none, none, none, none, none, (ownO v5 g13 8 (List.map rAirspace x11)), none, none, (some (.rows g14 8 [[(.sl 2 (List.map rVolume a.Volumes)), (.sl 5 (List.map rSector a.Sectors)), (.sl 3 (List.map rConfig a.Configs)), v6, (.sl 7 (List.map rRoute a.Routes)), (.sl 2 (List.map rAirport a.Airports)), (.sl 4 (List.map rClass a.Classes)), (.sl 8 (List.map rRule a.Rules))]])), (ownO v6 g15 5 (List.map rSegment a.Segments)), none, none, none, none] rfl ?_
                              refine wr_seq ?_
                              refine wr_draw hmix [[], [0], [], [], [2, 3], [0, 1, 2, 3, 4], [0, 1, 2, 3, 4, 5], [0, 1, 2, 3, 4, 5, 6], [0, 1, 2, 3, 4, 5, 6, 7], [0, 1, 2, 3, 4, 5, 6, 7, 8], [0, 1, 2, 3, 4, 5, 6, 7, 8, 9, 9]] [(false, 0), (false, 1), (false, 2), (false, 3), (false, 4), (false, 5), (false, 6), (false, 7), (false, 8), (false, 9), (false, 10)] (by kernel_rfl) ?_
                              refine wp_val (.ptr (ix ids 1) g1 0 4) rfl rfl (pv_fa (fa_ptr (c := 0) (off := 4) (i := 4) ti31 rfl ti26 rfl)) ?_
                              refine wp_val (.sl 7 (List.map rRoute r2.1.Routes)) rfl rfl (pv_load (ld_ptr hI rfl rfl rfl ti26 rfl)) ?_
                              refine wp_val (.int .i64 (IntKind.wrap .i64 b)) rfl rfl pv_move ?_
                              refine wp_val (.int .i64 (r2.1.Routes.length : Int)) rfl rfl pv_move ?_
                              refine op_need fun hz14 => ?_
                              refine wp_val (.int .i64 (Int.tmod (IntKind.wrap .i64 b) (r2.1.Routes.length : Int))) rfl rfl (pv_bin rfl rfl (bin_rem rfl hz14)) ?_
                              refine op_idx fun a14 hz15 hx12 => ?_
                              refine wp_val (.cp (rRoute a14) 0) rfl rfl (pv_ixa (ixa_sl ti26 ti59 rfl hz15 hx12)) ?_
                              refine wp_val (.cp (rRoute a14) 6) rfl rfl (pv_fa (fa_cp (c := 0) (off := 6) (i := 6) ti59 rfl ti51 rfl)) ?_
                              refine wp_val (.sl 1 (List.map (rI .i64) a14.Segments)) rfl rfl (pv_load (ld_cp ti51 rfl)) ?_
                              refine op_idx fun a15 hz16 hx13 => ?_
                              refine wp_val (.cp [(.int .i64 a15)] 0) rfl rfl (pv_ixa (ixa_sl ti51 ti3 rfl hz16 hx13)) ?_
                              refine wp_val (.int .i64 a15) rfl rfl (pv_load (ld_cp ti3 rfl)) ?_
                              refine wp_val (.int .i64 a15) rfl rfl pv_assign ?_
                              refine wp_nil ?_
                              refine wr_seq ?_
                              refine wr_region ?_
                              refine wo_val (.int .i64 a15) rfl pv_move ?_
                              refine wo_val (.bool (decide (a15 ≥ 0))) rfl (pv_bin rfl rfl rfl) ?_
                              refine wo_val (.bool (decide (a15 ≥ 0))) rfl pv_move ?_
                              refine wo_meet 6 [(2, (.ptr (ix ids 0) g 0 0)), (5, (.ptr (ix ids 1) g1 0 0)), (7, (.str x6)), (16, (.int .i64 (IntKind.wrap .i64 b))), (17, v5), (25, (.ptr (ix ids 11) g14 0 0)), (26, (.int .i64 a15)), (247, (.bool ((decide (a15 ≥ 0)) && (decide (a15 < (a.Segments.length : Int))))))] ?_ fun hJ2 => wo_cases (decide (a15 ≥ 0)) (fun hb8 => ?_) (fun hb8 => ?_)
                              · refine wo_nil ?_
                                refine wf_iteb rfl (fun hc8 => ?_) (fun hc8 => ?_)
                                · refine wr_seq ?_
                                  refine wr_region ?_
                                  refine wo_val (.ptr (ix ids 11) g14 0 3) rfl (pv_fa (fa_ptr (c := 0) (off := 3) (i := 3) ti31 rfl ti25 rfl)) ?_
                                  refine wo_val v6 rfl (pv_load (ld_ptr hI rfl rfl rfl ti25 rfl)) ?_
                                  refine wo_val (.int .i64 a15) rfl pv_move ?_
                                  refine wo_val (.str x6) rfl pv_move ?_
                                  refine of_need fun hl15 => ?_
                                  refine wo_val (.str (x6 ++ [115, 101, 103, 109, 101, 110, 116])) rfl (pv_bin rfl rfl (bin_cat hl15)) ?_
                                  refine of_idx fun a16 hz17 hx14 => ?_
                                  refine wo_val (.ptr (ix ids 12) g15 a15.toNat 0) rfl (pv_ixa (ixa_own hI rfl vH8 rfl ti25 ti57 rfl hz17 hx14)) ?_
                                  refine wo_val (.ptr (ix ids 12) g15 a15.toNat 0) rfl (pv_fa (fa_ptr (c := 0) (off := 0) (i := 0) ti57 rfl ti9 rfl)) ?_
                                  refine wo_store (st_own (y := { a16 with Name := (x6 ++ [115, 101, 103, 109, 101, 110, 116]) }) hI rfl rfl vH8 rfl hx14 ti9 rfl rfl rfl rfl rfl rfl) ?_
                                  have vH9 := OwnV.set (i := a15.toNat) (y := { a16 with Name := (x6 ++ [115, 101, 103, 109, 101, 110, 116]) }) vH8
                                  have hx15 := List.getElem?_set_self (a := { a16 with Name := (x6 ++ [115, 101, 103, 109, 101, 110, 116]) }) (lt_of_get hx14)
                                  refine wo_nil ?_
                                  refine wr_hp [(some (.rows g 8 [(rAirspace a)])), (some (.rows g1 8 [(rAirspace r2.1)])), none, none, none, none, none, none, (ownO v5 g13 8 (List.map rAirspace x11)), none, none, (some (.rows g14 8 [[(.sl 2 (List.map rVolume a.Volumes)), (.sl 5 (List.map rSector a.Sectors)), (.sl 3 (List.map rConfig a.Configs)), v6, (.sl 7 (List.map rRoute a.Routes)), (.sl 2 (List.map rAirport a.Airports)), (.sl 4 (List.map rClass a.Classes)), (.sl 8 (List.map rRule a.Rules))]])), (ownO v6 g15 5 (List.map rSegment (a.Segments.set a15.toNat { a16 with Name := (x6 ++ [115, 101, 103, 109, 101, 110, 116]) }))), none, none, none, none] rfl ?_
                                  refine wr_region ?_
                                  refine wo_val v5 rfl pv_move ?_
                                  refine wo_val (.agg [(.sl 2 (List.map rVolume a.Volumes)), (.sl 5 (List.map rSector a.Sectors)), (.sl 3 (List.map rConfig a.Configs)), v6, (.sl 7 (List.map rRoute a.Routes)), (.sl 2 (List.map rAirport a.Airports)), (.sl 4 (List.map rClass a.Classes)), (.sl 8 (List.map rRule a.Rules))]) rfl (pv_load (ld_ptr hI rfl rfl rfl ti31 rfl)) ?_
                                  refine wo_frz (h2 := hp h0 ids [(some (.rows g 8 [(rAirspace a)])), (some (.rows g1 8 [(rAirspace r2.1)])), none, none, none, none, none, none, (ownO v5 g13 8 (List.map rAirspace x11)), none, none, none, none, none, none, none, none]) [(2, (.ptr (ix ids 0) g 0 0)), (5, (.ptr (ix ids 1) g1 0 0)), (7, (.str x6)), (16, (.int .i64 (IntKind.wrap .i64 b))), (255, v5), (256, (.agg (rAirspace ({ Volumes := a.Volumes, Sectors := a.Sectors, Configs := a.Configs, Segments := (a.Segments.set a15.toNat { a16 with Name := (x6 ++ [115, 101, 103, 109, 101, 110, 116]) }), Routes := a.Routes, Airports := a.Airports, Classes := a.Classes, Rules := a.Rules } : Airspace))))] (Drops.sub (.keep (.keep (.keep (.keep (.keep (.keep (.keep (.keep (.keep (.keep (.keep (.drop (.drop (.keep (.keep (.keep (.keep .nil))))))))))))))))) hI.len) (.cons (.same _) (.cons (.same _) (.cons (.same _) (.cons (.same _) (.cons (.same _) (.cons (.aggL (.cons (.same _) (.cons (.same _) (.cons (.same _) (.cons (own_fz vH9 (hI.at rfl rfl) (hI.at rfl rfl) (fun x => ok_Segment x)) (.cons (.same _) (.cons (.same _) (.cons (.same _) (.cons (.same _) .nil))))))))) .nil)))))) rfl rfl ?_
                                  refine wo_bsC (e := rAirspace) (L := [({ Volumes := a.Volumes, Sectors := a.Sectors, Configs := a.Configs, Segments := (a.Segments.set a15.toNat { a16 with Name := (x6 ++ [115, 101, 103, 109, 101, 110, 116]) }), Routes := a.Routes, Airports := a.Airports, Classes := a.Classes, Rules := a.Rules } : Airspace)]) (st := 8) (rows := [[(.sl 2 (List.map rVolume ({ Volumes := a.Volumes, Sectors := a.Sectors, Configs := a.Configs, Segments := (a.Segments.set a15.toNat { a16 with Name := (x6 ++ [115, 101, 103, 109, 101, 110, 116]) }), Routes := a.Routes, Airports := a.Airports, Classes := a.Classes, Rules := a.Rules } : Airspace).Volumes)), (.sl 5 (List.map rSector ({ Volumes := a.Volumes, Sectors := a.Sectors, Configs := a.Configs, Segments := (a.Segments.set a15.toNat { a16 with Name := (x6 ++ [115, 101, 103, 109, 101, 110, 116]) }), Routes := a.Routes, Airports := a.Airports, Classes := a.Classes, Rules := a.Rules } : Airspace).Sectors)), (.sl 3 (List.map rConfig ({ Volumes := a.Volumes, Sectors := a.Sectors, Configs := a.Configs, Segments := (a.Segments.set a15.toNat { a16 with Name := (x6 ++ [115, 101, 103, 109, 101, 110, 116]) }), Routes := a.Routes, Airports := a.Airports, Classes := a.Classes, Rules := a.Rules } : Airspace).Configs)), (.sl 5 (List.map rSegment ({ Volumes := a.Volumes, Sectors := a.Sectors, Configs := a.Configs, Segments := (a.Segments.set a15.toNat { a16 with Name := (x6 ++ [115, 101, 103, 109, 101, 110, 116]) }), Routes := a.Routes, Airports := a.Airports, Classes := a.Classes, Rules := a.Rules } : Airspace).Segments)), (.sl 7 (List.map rRoute ({ Volumes := a.Volumes, Sectors := a.Sectors, Configs := a.Configs, Segments := (a.Segments.set a15.toNat { a16 with Name := (x6 ++ [115, 101, 103, 109, 101, 110, 116]) }), Routes := a.Routes, Airports := a.Airports, Classes := a.Classes, Rules := a.Rules } : Airspace).Routes)), (.sl 2 (List.map rAirport ({ Volumes := a.Volumes, Sectors := a.Sectors, Configs := a.Configs, Segments := (a.Segments.set a15.toNat { a16 with Name := (x6 ++ [115, 101, 103, 109, 101, 110, 116]) }), Routes := a.Routes, Airports := a.Airports, Classes := a.Classes, Rules := a.Rules } : Airspace).Airports)), (.sl 4 (List.map rClass ({ Volumes := a.Volumes, Sectors := a.Sectors, Configs := a.Configs, Segments := (a.Segments.set a15.toNat { a16 with Name := (x6 ++ [115, 101, 103, 109, 101, 110, 116]) }), Routes := a.Routes, Airports := a.Airports, Classes := a.Classes, Rules := a.Rules } : Airspace).Classes)), (.sl 8 (List.map rRule ({ Volumes := a.Volumes, Sectors := a.Sectors, Configs := a.Configs, Segments := (a.Segments.set a15.toNat { a16 with Name := (x6 ++ [115, 101, 103, 109, 101, 110, 116]) }), Routes := a.Routes, Airports := a.Airports, Classes := a.Classes, Rules := a.Rules } : Airspace).Rules))]]) rfl ti64 ti31 rfl rfl rfl rfl rfl (.cons (RowSim.refl _) .nil) (fun x => ok_Airspace x) rfl rfl ?_
                                  refine of_need fun hl16 => ?_
                                  refine wo_append (e := rAirspace) (L := x11) (L2 := [({ Volumes := a.Volumes, Sectors := a.Sectors, Configs := a.Configs, Segments := (a.Segments.set a15.toNat { a16 with Name := (x6 ++ [115, 101, 103, 109, 101, 110, 116]) }), Routes := a.Routes, Airports := a.Airports, Classes := a.Classes, Rules := a.Rules } : Airspace)]) (v := v5) (g := g13) (st := 8) (j := 8) hI rfl rfl rfl rfl vH7 rfl (src_sl rfl) ti64 ti64 rfl ti31 rfl rfl rfl hl16 fun v7 g16 vH10 => ?_
                                  refine wo_val v7 rfl pv_assign ?_
                                  refine wo_nil ?_
                                  refine wr_hp [(some (.rows g 8 [(rAirspace a)])), (some (.rows g1 8 [(rAirspace r2.1)])), none, none, none, none, none, none, (ownO v7 g16 8 (List.map rAirspace (x11 ++ [({ Volumes := a.Volumes, Sectors := a.Sectors, Configs := a.Configs, Segments := (a.Segments.set a15.toNat { a16 with Name := (x6 ++ [115, 101, 103, 109, 101, 110, 116]) }), Routes := a.Routes, Airports := a.Airports, Classes := a.Classes, Rules := a.Rules } : Airspace)]))), none, none, none, none, none, none, none, none] rfl ?_
                                  refine wr_is [(2, (.ptr (ix ids 0) g 0 0)), (5, (.ptr (ix ids 1) g1 0 0)), (7, (.str x6)), (16, (.int .i64 (IntKind.wrap .i64 b))), (17, v7)] (.cons rfl (.cons rfl (.cons rfl (.cons rfl (.cons rfl .nil))))) ?_
                                  refine hJ5 (x11 ++ [({ Volumes := a.Volumes, Sectors := a.Sectors, Configs := a.Configs, Segments := (a.Segments.set a15.toNat { a16 with Name := (x6 ++ [115, 101, 103, 109, 101, 110, 116]) }), Routes := a.Routes, Airports := a.Airports, Classes := a.Classes, Rules := a.Rules } : Airspace)]) _ _ ?_
                                  exact ⟨v7, g16, vH10, rfl, rfl⟩
                                · refine wr_skip ?_
                                  refine wr_drop [(some (.rows g 8 [(rAirspace a)])), (some (.rows g1 8 [(rAirspace r2.1)])), none, none, none, none, none, none, (ownO v5 g13 8 (List.map rAirspace x11)), none, none, none, none, none, none, none, none] hI rfl (.keep (.keep (.keep (.keep (.keep (.keep (.keep (.keep (.keep (.keep (.keep (.drop (.drop (.keep (.keep (.keep (.keep .nil))))))))))))))))) ?_
                                  refine wr_is [(2, (.ptr (ix ids 0) g 0 0)), (5, (.ptr (ix ids 1) g1 0 0)), (7, (.str x6)), (16, (.int .i64 (IntKind.wrap .i64 b))), (17, v5)] (.cons rfl (.cons rfl (.cons rfl (.cons rfl (.cons rfl .nil))))) ?_
                                  refine hJ5 x11 _ _ ?_
                                  exact ⟨v5, g13, vH7, rfl, rfl⟩
                              · refine wo_valg (tj := 241) (.int .i64 a15) rfl (congrArg AV.bool hb8) rfl pv_move ?_
                                refine wo_valg (tj := 241) (.ptr (ix ids 11) g14 0 3) rfl (congrArg AV.bool hb8) rfl (pv_fa (fa_ptr (c := 0) (off := 3) (i := 3) ti31 rfl ti25 rfl)) ?_
                                refine wo_valg (tj := 241) v6 rfl (congrArg AV.bool hb8) rfl (pv_load (ld_ptr hI rfl rfl rfl ti25 rfl)) ?_
                                refine wo_valg (tj := 241) (.int .i64 (a.Segments.length : Int)) rfl (congrArg AV.bool hb8) rfl (pv_len (OwnV.len vH8 ti25)) ?_
                                refine wo_valg (tj := 241) (.bool (decide (a15 < (a.Segments.length : Int)))) rfl (congrArg AV.bool hb8) rfl (pv_bin rfl rfl rfl) ?_
                                refine wo_val (.bool (decide (a15 < (a.Segments.length : Int)))) rfl (pv_pick (t := true) (congrArg AV.bool hb8) rfl) ?_
                                exact wo_is [(2, (.ptr (ix ids 0) g 0 0)), (5, (.ptr (ix ids 1) g1 0 0)), (7, (.str x6)), (16, (.int .i64 (IntKind.wrap .i64 b))), (17, v5), (25, (.ptr (ix ids 11) g14 0 0)), (26, (.int .i64 a15)), (247, (.bool ((decide (a15 ≥ 0)) && (decide (a15 < (a.Segments.length : Int))))))] (.cons rfl (.cons rfl (.cons rfl (.cons rfl (.cons rfl (.cons rfl (.cons rfl (.cons (and_t hb8) .nil)))))))) hJ2
                              · refine wo_not (tj := 241) (b := false) rfl (congrArg AV.bool hb8) rfl rfl ?_
                                refine wo_not (tj := 241) (b := false) rfl (congrArg AV.bool hb8) rfl rfl ?_
                                refine wo_not (tj := 241) (b := false) rfl (congrArg AV.bool hb8) rfl rfl ?_
                                refine wo_not (tj := 241) (b := false) rfl (congrArg AV.bool hb8) rfl rfl ?_
                                refine wo_not (tj := 241) (b := false) rfl (congrArg AV.bool hb8) rfl rfl ?_
                                refine wo_val (.bool false) rfl (pv_pick (t := false) (congrArg AV.bool hb8) rfl) ?_
                                exact wo_is [(2, (.ptr (ix ids 0) g 0 0)), (5, (.ptr (ix ids 1) g1 0 0)), (7, (.str x6)), (16, (.int .i64 (IntKind.wrap .i64 b))), (17, v5), (25, (.ptr (ix ids 11) g14 0 0)), (26, (.int .i64 a15)), (247, (.bool ((decide (a15 ≥ 0)) && (decide (a15 < (a.Segments.length : Int))))))] (.cons rfl (.cons rfl (.cons rfl (.cons rfl (.cons rfl (.cons rfl (.cons rfl (.cons (and_f hb8) .nil)))))))) hJ2
                            · refine wr_skip ?_
                              refine wr_is [(2, (.ptr (ix ids 0) g 0 0)), (5, (.ptr (ix ids 1) g1 0 0)), (7, (.str x6)), (16, (.int .i64 (IntKind.wrap .i64 b))), (17, v5)] (.cons rfl (.cons rfl (.cons rfl (.cons rfl (.cons rfl .nil))))) ?_
                              refine hJ5 x11 _ _ ?_
                              exact ⟨v5, g13, vH7, rfl, rfl⟩
                        · refine wr_draw hmix [[], [0], [0, 1], [0, 1, 2], [0, 1, 2, 3], [0, 1, 2], [0, 1, 2], [0, 1, 2, 5, 6], [0, 1, 2, 3, 4, 5, 6, 7], [0, 1, 2, 3, 4, 5, 6, 7, 8], [0, 1, 2, 3, 4, 5, 6, 7, 8, 9], [0, 1, 2, 3, 4, 5, 6, 7, 8, 9, 10], [0, 1, 2, 3, 4, 5, 6, 7, 8, 9, 10, 11], [0, 1, 2, 3, 4, 5, 6, 7, 8, 9, 10, 11, 12]] [(false, 0), (false, 1), (false, 2), (false, 3), (false, 4), (false, 5), (false, 6), (false, 7), (false, 8), (false, 9), (false, 10), (false, 11), (false, 12), (false, 13)] (by kernel_rfl) ?_
                          refine wp_val (.int .i64 (r2.1.Routes.length : Int)) rfl rfl pv_move ?_
                          refine wp_val (.bool (decide ((r2.1.Routes.length : Int) > 0))) rfl rfl (pv_bin rfl rfl rfl) ?_
                          refine wp_val (.bool (decide ((r2.1.Routes.length : Int) > 0))) rfl rfl pv_move ?_
                          refine op_iteb (fun hb6 => ?_) (fun hb6 => ?_)
                          · refine wp_valg (tj := 211) (.ptr (ix ids 1) g1 0 4) rfl rfl (congrArg AV.bool hb6) rfl (pv_fa (fa_ptr (c := 0) (off := 4) (i := 4) ti31 rfl ti26 rfl)) ?_
                            refine wp_valg (tj := 211) (.sl 7 (List.map rRoute r2.1.Routes)) rfl rfl (congrArg AV.bool hb6) rfl (pv_load (ld_ptr hI rfl rfl rfl ti26 rfl)) ?_
                            refine wp_valg (tj := 211) (.int .i64 (IntKind.wrap .i64 b)) rfl rfl (congrArg AV.bool hb6) rfl pv_move ?_
                            refine wp_valg (tj := 211) (.int .i64 (r2.1.Routes.length : Int)) rfl rfl (congrArg AV.bool hb6) rfl pv_move ?_
                            refine op_need fun hz12 => ?_
                            refine wp_valg (tj := 211) (.int .i64 (Int.tmod (IntKind.wrap .i64 b) (r2.1.Routes.length : Int))) rfl rfl (congrArg AV.bool hb6) rfl (pv_bin rfl rfl (bin_rem rfl hz12)) ?_
                            refine op_idx fun a13 hz13 hx11 => ?_
                            refine wp_valg (tj := 211) (.cp (rRoute a13) 0) rfl rfl (congrArg AV.bool hb6) rfl (pv_ixa (ixa_sl ti26 ti59 rfl hz13 hx11)) ?_
                            refine wp_valg (tj := 211) (.cp (rRoute a13) 6) rfl rfl (congrArg AV.bool hb6) rfl (pv_fa (fa_cp (c := 0) (off := 6) (i := 6) ti59 rfl ti51 rfl)) ?_
                            refine wp_valg (tj := 211) (.sl 1 (List.map (rI .i64) a13.Segments)) rfl rfl (congrArg AV.bool hb6) rfl (pv_load (ld_cp ti51 rfl)) ?_
                            refine wp_valg (tj := 211) (.int .i64 (a13.Segments.length : Int)) rfl rfl (congrArg AV.bool hb6) rfl (pv_len (len_sl ti51)) ?_
                            refine wp_valg (tj := 211) (.bool (decide ((a13.Segments.length : Int) > 0))) rfl rfl (congrArg AV.bool hb6) rfl (pv_bin rfl rfl rfl) ?_
                            refine wp_val (.bool (decide ((a13.Segments.length : Int) > 0))) rfl rfl (pv_pick (t := true) (congrArg AV.bool hb6) rfl) ?_
                            refine wp_nil ?_
                            refine wr_is [(2, (.ptr (ix ids 0) g 0 0)), (5, (.ptr (ix ids 1) g1 0 0)), (7, (.str x6)), (16, (.int .i64 (IntKind.wrap .i64 b))), (17, v5), (24, (.int .i64 (r2.1.Routes.length : Int))), (222, (.bool (decide ((a13.Segments.length : Int) > 0))))] (.cons rfl (.cons rfl (.cons rfl (.cons rfl (.cons rfl (.cons rfl (.cons rfl .nil))))))) ?_
                            refine hJ6 (decide ((a13.Segments.length : Int) > 0)) _ _ ?_
                            exact ⟨rfl, rfl⟩
                          · refine wp_not (tj := 211) (b := false) rfl rfl (congrArg AV.bool hb6) rfl rfl ?_
                            refine wp_not (tj := 211) (b := false) rfl rfl (congrArg AV.bool hb6) rfl rfl ?_
                            refine wp_not (tj := 211) (b := false) rfl rfl (congrArg AV.bool hb6) rfl rfl ?_
                            refine wp_not (tj := 211) (b := false) rfl rfl (congrArg AV.bool hb6) rfl rfl ?_
                            refine wp_not (tj := 211) (b := false) rfl rfl (congrArg AV.bool hb6) rfl rfl ?_
                            refine wp_not (tj := 211) (b := false) rfl rfl (congrArg AV.bool hb6) rfl rfl ?_
                            refine wp_not (tj := 211) (b := false) rfl rfl (congrArg AV.bool hb6) rfl rfl ?_
                            refine wp_not (tj := 211) (b := false) rfl rfl (congrArg AV.bool hb6) rfl rfl ?_
                            refine wp_not (tj := 211) (b := false) rfl rfl (congrArg AV.bool hb6) rfl rfl ?_
                            refine wp_not (tj := 211) (b := false) rfl rfl (congrArg AV.bool hb6) rfl rfl ?_
                            refine wp_val (.bool false) rfl rfl (pv_pick (t := false) (congrArg AV.bool hb6) rfl) ?_
                            refine wp_nil ?_
                            refine wr_is [(2, (.ptr (ix ids 0) g 0 0)), (5, (.ptr (ix ids 1) g1 0 0)), (7, (.str x6)), (16, (.int .i64 (IntKind.wrap .i64 b))), (17, v5), (24, (.int .i64 (r2.1.Routes.length : Int))), (222, (.bool false))] (.cons rfl (.cons rfl (.cons rfl (.cons rfl (.cons rfl (.cons rfl (.cons rfl .nil))))))) ?_
                            refine hJ6 false _ _ ?_
                            exact ⟨rfl, rfl⟩
                      · refine wf_iteb rfl (fun hc5 => ?_) (fun hc5 => ?_)
                        · refine wr_seq ?_
                          refine wr_region ?_
                          refine wo_val (.agg (rAirspace a)) rfl (pv_load (ld_ptr hI rfl rfl rfl ti31 rfl)) ?_
                          refine wo_alloc (j := 9) hI rfl rfl rfl rfl ti31 rfl fun g10 => ?_
                          refine wo_store (st_ptr hI rfl rfl rfl rfl ti31 rfl rfl rfl rfl rfl) ?_
                          refine wo_nil ?_
                          refine wr_hp [(some (.rows g 8 [(rAirspace a)])), (some (.rows g1 8 [(rAirspace r2.1)])), none, none, none, none, none, none, (ownO v2 g9 8 (List.map rAirspace x9)), (some (.rows g10 8 [(rAirspace a)])), none, none, none, none, none, none, none] rfl ?_
                          refine wr_seq ?_
                          refine wr_region ?_
                          refine wo_bs0 rfl ti23 ti53 ?_
                          refine wo_val (.ptr (ix ids 0) g 0 1) rfl (pv_fa (fa_ptr (c := 0) (off := 1) (i := 1) ti31 rfl ti23 rfl)) ?_
                          refine wo_val (.sl 5 (List.map rSector a.Sectors)) rfl (pv_load (ld_ptr hI rfl rfl rfl ti23 rfl)) ?_
                          refine of_need fun hl11 => ?_
                          refine wo_append (e := rSector) (L := ([] : List Sector)) (L2 := a.Sectors) (v := .emp) (g := 0) (st := 5) (j := 10) hI rfl rfl rfl rfl .nil rfl (src_sl rfl) ti23 ti23 rfl ti53 rfl rfl rfl (by simpa using hl11) fun v3 g11 vH4 => ?_
                          refine wo_val (.ptr (ix ids 9) g10 0 1) rfl (pv_fa (fa_ptr (c := 0) (off := 1) (i := 1) ti31 rfl ti23 rfl)) ?_
                          refine wo_store (st_ptrO vH4 hI rfl rfl rfl rfl ti23 rfl rfl rfl) ?_
                          refine wo_nil ?_
                          refine wr_hp [(some (.rows g 8 [(rAirspace a)])), (some (.rows g1 8 [(rAirspace r2.1)])), none, none, none, none, none, none, (ownO v2 g9 8 (List.map rAirspace x9)), (some (.rows g10 8 [[(.sl 2 (List.map rVolume a.Volumes)), v3, (.sl 3 (List.map rConfig a.Configs)), (.sl 5 (List.map rSegment a.Segments)), (.sl 7 (List.map rRoute a.Routes)), (.sl 2 (List.map rAirport a.Airports)), (.sl 4 (List.map rClass a.Classes)), (.sl 8 (List.map rRule a.Rules))]])), (ownO v3 g11 5 (List.map rSector a.Sectors)), none, none, none, none, none, none] rfl ?_
                          refine wr_seq ?_
                          refine wr_draw hmix [[], [0], [], [], [2, 3], [0, 1, 2, 3, 4], [0, 1, 2, 3, 4, 5], [0, 1, 2, 3, 4, 5, 6], [0, 1, 2, 3, 4, 5, 6, 7], [0, 1, 2, 3, 4, 5, 6, 7, 8], [0, 1, 2, 3, 4, 5, 6, 7, 8, 9, 9]] [(false, 0), (false, 1), (false, 2), (false, 3), (false, 4), (false, 5), (false, 6), (false, 7), (false, 8), (false, 9), (false, 10)] (by kernel_rfl) ?_
                          refine wp_val (.ptr (ix ids 1) g1 0 2) rfl rfl (pv_fa (fa_ptr (c := 0) (off := 2) (i := 2) ti31 rfl ti24 rfl)) ?_
                          refine wp_val (.sl 3 (List.map rConfig r2.1.Configs)) rfl rfl (pv_load (ld_ptr hI rfl rfl rfl ti24 rfl)) ?_
                          refine wp_val (.int .i64 (IntKind.wrap .i64 b)) rfl rfl pv_move ?_
                          refine wp_val (.int .i64 (r2.1.Configs.length : Int)) rfl rfl pv_move ?_
                          refine op_need fun hz8 => ?_
                          refine wp_val (.int .i64 (Int.tmod (IntKind.wrap .i64 b) (r2.1.Configs.length : Int))) rfl rfl (pv_bin rfl rfl (bin_rem rfl hz8)) ?_
                          refine op_idx fun a10 hz9 hx7 => ?_
                          refine wp_val (.cp (rConfig a10) 0) rfl rfl (pv_ixa (ixa_sl ti24 ti55 rfl hz9 hx7)) ?_
                          refine wp_val (.cp (rConfig a10) 2) rfl rfl (pv_fa (fa_cp (c := 0) (off := 2) (i := 2) ti55 rfl ti51 rfl)) ?_
                          refine wp_val (.sl 1 (List.map (rI .i64) a10.Sectors)) rfl rfl (pv_load (ld_cp ti51 rfl)) ?_
                          refine op_idx fun a11 hz10 hx8 => ?_
                          refine wp_val (.cp [(.int .i64 a11)] 0) rfl rfl (pv_ixa (ixa_sl ti51 ti3 rfl hz10 hx8)) ?_
                          refine wp_val (.int .i64 a11) rfl rfl (pv_load (ld_cp ti3 rfl)) ?_
                          refine wp_val (.int .i64 a11) rfl rfl pv_assign ?_
                          refine wp_nil ?_
                          refine wr_seq ?_
                          refine wr_region ?_
                          refine wo_val (.int .i64 a11) rfl pv_move ?_
                          refine wo_val (.bool (decide (a11 ≥ 0))) rfl (pv_bin rfl rfl rfl) ?_
                          refine wo_val (.bool (decide (a11 ≥ 0))) rfl pv_move ?_
                          refine wo_meet 6 [(2, (.ptr (ix ids 0) g 0 0)), (5, (.ptr (ix ids 1) g1 0 0)), (7, (.str x6)), (16, (.int .i64 (IntKind.wrap .i64 b))), (17, v2), (22, (.ptr (ix ids 9) g10 0 0)), (23, (.int .i64 a11)), (194, (.bool ((decide (a11 ≥ 0)) && (decide (a11 < (a.Sectors.length : Int))))))] ?_ fun hJ1 => wo_cases (decide (a11 ≥ 0)) (fun hb5 => ?_) (fun hb5 => ?_)
                          · refine wo_nil ?_
                            refine wf_iteb rfl (fun hc6 => ?_) (fun hc6 => ?_)
                            · refine wr_seq ?_
                              refine wr_region ?_
                              refine wo_val (.ptr (ix ids 9) g10 0 1) rfl (pv_fa (fa_ptr (c := 0) (off := 1) (i := 1) ti31 rfl ti23 rfl)) ?_
                              refine wo_val v3 rfl (pv_load (ld_ptr hI rfl rfl rfl ti23 rfl)) ?_
                              refine wo_val (.int .i64 a11) rfl pv_move ?_
                              refine wo_val (.str x6) rfl pv_move ?_
                              refine of_need fun hl12 => ?_
                              refine wo_val (.str (x6 ++ [115, 101, 99, 116, 111, 114])) rfl (pv_bin rfl rfl (bin_cat hl12)) ?_
                              refine of_idx fun a12 hz11 hx9 => ?_
                              refine wo_val (.ptr (ix ids 10) g11 a11.toNat 0) rfl (pv_ixa (ixa_own hI rfl vH4 rfl ti23 ti53 rfl hz11 hx9)) ?_
                              refine wo_val (.ptr (ix ids 10) g11 a11.toNat 0) rfl (pv_fa (fa_ptr (c := 0) (off := 0) (i := 0) ti53 rfl ti9 rfl)) ?_
                              refine wo_store (st_own (y := { a12 with Name := (x6 ++ [115, 101, 99, 116, 111, 114]) }) hI rfl rfl vH4 rfl hx9 ti9 rfl rfl rfl rfl rfl rfl) ?_
                              have vH5 := OwnV.set (i := a11.toNat) (y := { a12 with Name := (x6 ++ [115, 101, 99, 116, 111, 114]) }) vH4
                              have hx10 := List.getElem?_set_self (a := { a12 with Name := (x6 ++ [115, 101, 99, 116, 111, 114]) }) (lt_of_get hx9)
                              refine wo_nil ?_
                              refine wr_hp [(some (.rows g 8 [(rAirspace a)])), (some (.rows g1 8 [(rAirspace r2.1)])), none, none, none, none, none, none, (ownO v2 g9 8 (List.map rAirspace x9)), (some (.rows g10 8 [[(.sl 2 (List.map rVolume a.Volumes)), v3, (.sl 3 (List.map rConfig a.Configs)), (.sl 5 (List.map rSegment a.Segments)), (.sl 7 (List.map rRoute a.Routes)), (.sl 2 (List.map rAirport a.Airports)), (.sl 4 (List.map rClass a.Classes)), (.sl 8 (List.map rRule a.Rules))]])), (ownO v3 g11 5 (List.map rSector (a.Sectors.set a11.toNat { a12 with Name := (x6 ++ [115, 101, 99, 116, 111, 114]) }))), none, none, none, none, none, none] rfl ?_
                              refine wr_region ?_
                              refine wo_val v2 rfl pv_move ?_
                              refine wo_val (.agg [(.sl 2 (List.map rVolume a.Volumes)), v3, (.sl 3 (List.map rConfig a.Configs)), (.sl 5 (List.map rSegment a.Segments)), (.sl 7 (List.map rRoute a.Routes)), (.sl 2 (List.map rAirport a.Airports)), (.sl 4 (List.map rClass a.Classes)), (.sl 8 (List.map rRule a.Rules))]) rfl (pv_load (ld_ptr hI rfl rfl rfl ti31 rfl)) ?_
                              refine wo_frz (h2 := hp h0 ids [(some (.rows g 8 [(rAirspace a)])), (some (.rows g1 8 [(rAirspace r2.1)])), none, none, none, none, none, none, (ownO v2 g9 8 (List.map rAirspace x9)), none, none, none, none, none, none, none, none]) [(2, (.ptr (ix ids 0) g 0 0)), (5, (.ptr (ix ids 1) g1 0 0)), (7, (.str x6)), (16, (.int .i64 (IntKind.wrap .i64 b))), (202, v2), (203, (.agg (rAirspace ({ Volumes := a.Volumes, Sectors := (a.Sectors.set a11.toNat { a12 with Name := (x6 ++ [115, 101, 99, 116, 111, 114]) }), Configs := a.Configs, Segments := a.Segments, Routes := a.Routes, Airports := a.Airports, Classes := a.Classes, Rules := a.Rules } : Airspace))))] (Drops.sub (.keep (.keep (.keep (.keep (.keep (.keep (.keep (.keep (.keep (.drop (.drop (.keep (.keep (.keep (.keep (.keep (.keep .nil))))))))))))))))) hI.len) (.cons (.same _) (.cons (.same _) (.cons (.same _) (.cons (.same _) (.cons (.same _) (.cons (.aggL (.cons (.same _) (.cons (own_fz vH5 (hI.at rfl rfl) (hI.at rfl rfl) (fun x => ok_Sector x)) (.cons (.same _) (.cons (.same _) (.cons (.same _) (.cons (.same _) (.cons (.same _) (.cons (.same _) .nil))))))))) .nil)))))) rfl rfl ?_
                              refine wo_bsC (e := rAirspace) (L := [({ Volumes := a.Volumes, Sectors := (a.Sectors.set a11.toNat { a12 with Name := (x6 ++ [115, 101, 99, 116, 111, 114]) }), Configs := a.Configs, Segments := a.Segments, Routes := a.Routes, Airports := a.Airports, Classes := a.Classes, Rules := a.Rules } : Airspace)]) (st := 8) (rows := [[(.sl 2 (List.map rVolume ({ Volumes := a.Volumes, Sectors := (a.Sectors.set a11.toNat { a12 with Name := (x6 ++ [115, 101, 99, 116, 111, 114]) }), Configs := a.Configs, Segments := a.Segments, Routes := a.Routes, Airports := a.Airports, Classes := a.Classes, Rules := a.Rules } : Airspace).Volumes)), (.sl 5 (List.map rSector ({ Volumes := a.Volumes, Sectors := (a.Sectors.set a11.toNat { a12 with Name := (x6 ++ [115, 101, 99, 116, 111, 114]) }), Configs := a.Configs, Segments := a.Segments, Routes := a.Routes, Airports := a.Airports, Classes := a.Classes, Rules := a.Rules } : Airspace).Sectors)), (.sl 3 (List.map rConfig ({ Volumes := a.Volumes, Sectors := (a.Sectors.set a11.toNat { a12 with Name := (x6 ++ [115, 101, 99, 116, 111, 114]) }), Configs := a.Configs, Segments := a.Segments, Routes := a.Routes, Airports := a.Airports, Classes := a.Classes, Rules := a.Rules } : Airspace).Configs)), (.sl 5 (List.map rSegment ({ Volumes := a.Volumes, Sectors := (a.Sectors.set a11.toNat { a12 with Name := (x6 ++ [115, 101, 99, 116, 111, 114]) }), Configs := a.Configs, Segments := a.Segments, Routes := a.Routes, Airports := a.Airports, Classes := a.Classes, Rules := a.Rules } : Airspace).Segments)), (.sl 7 (List.map rRoute ({ Volumes := a.Volumes, Sectors := (a.Sectors.set a11.toNat { a12 with Name := (x6 ++ [115, 101, 99, 116, 111, 114]) }), Configs := a.Configs, Segments := a.Segments, Routes := a.Routes, Airports := a.Airports, Classes := a.Classes, Rules := a.Rules } : Airspace).Routes)), (.sl 2 (List.map rAirport ({ Volumes := a.Volumes, Sectors := (a.Sectors.set a11.toNat { a12 with Name := (x6 ++ [115, 101, 99, 116, 111, 114]) }), Configs := a.Configs, Segments := a.Segments, Routes := a.Routes, Airports := a.Airports, Classes := a.Classes, Rules := a.Rules } : Airspace).Airports)), (.sl 4 (List.map rClass ({ Volumes := a.Volumes, Sectors := (a.Sectors.set a11.toNat { a12 with Name := (x6 ++ [115, 101, 99, 116, 111, 114]) }), Configs := a.Configs, Segments := a.Segments, Routes := a.Routes, Airports := a.Airports, Classes := a.Classes, Rules := a.Rules } : Airspace).Classes)), (.sl 8 (List.map rRule ({ Volumes := a.Volumes, Sectors := (a.Sectors.set a11.toNat { a12 with Name := (x6 ++ [115, 101, 99, 116, 111, 114]) }), Configs := a.Configs, Segments := a.Segments, Routes := a.Routes, Airports := a.Airports, Classes := a.Classes, Rules := a.Rules } : Airspace).Rules))]]) rfl ti64 ti31 rfl rfl rfl rfl rfl (.cons (RowSim.refl _) .nil) (fun x => ok_Airspace x) rfl rfl ?_
                              refine of_need fun hl13 => ?_
                              refine wo_append (e := rAirspace) (L := x9) (L2 := [({ Volumes := a.Volumes, Sectors := (a.Sectors.set a11.toNat { a12 with Name := (x6 ++ [115, 101, 99, 116, 111, 114]) }), Configs := a.Configs, Segments := a.Segments, Routes := a.Routes, Airports := a.Airports, Classes := a.Classes, Rules := a.Rules } : Airspace)]) (v := v2) (g := g9) (st := 8) (j := 8) hI rfl rfl rfl rfl vH3 rfl (src_sl rfl) ti64 ti64 rfl ti31 rfl rfl rfl hl13 fun v4 g12 vH6 => ?_
                              refine wo_val v4 rfl pv_assign ?_
                              refine wo_nil ?_
                              refine wr_hp [(some (.rows g 8 [(rAirspace a)])), (some (.rows g1 8 [(rAirspace r2.1)])), none, none, none, none, none, none, (ownO v4 g12 8 (List.map rAirspace (x9 ++ [({ Volumes := a.Volumes, Sectors := (a.Sectors.set a11.toNat { a12 with Name := (x6 ++ [115, 101, 99, 116, 111, 114]) }), Configs := a.Configs, Segments := a.Segments, Routes := a.Routes, Airports := a.Airports, Classes := a.Classes, Rules := a.Rules } : Airspace)]))), none, none, none, none, none, none, none, none] rfl ?_
                              refine wr_is [(2, (.ptr (ix ids 0) g 0 0)), (5, (.ptr (ix ids 1) g1 0 0)), (7, (.str x6)), (16, (.int .i64 (IntKind.wrap .i64 b))), (17, v4)] (.cons rfl (.cons rfl (.cons rfl (.cons rfl (.cons rfl .nil))))) ?_
                              refine hJ7 (x9 ++ [({ Volumes := a.Volumes, Sectors := (a.Sectors.set a11.toNat { a12 with Name := (x6 ++ [115, 101, 99, 116, 111, 114]) }), Configs := a.Configs, Segments := a.Segments, Routes := a.Routes, Airports := a.Airports, Classes := a.Classes, Rules := a.Rules } : Airspace)]) _ _ ?_
                              exact ⟨v4, g12, vH6, rfl, rfl⟩
                            · refine wr_skip ?_
                              refine wr_drop [(some (.rows g 8 [(rAirspace a)])), (some (.rows g1 8 [(rAirspace r2.1)])), none, none, none, none, none, none, (ownO v2 g9 8 (List.map rAirspace x9)), none, none, none, none, none, none, none, none] hI rfl (.keep (.keep (.keep (.keep (.keep (.keep (.keep (.keep (.keep (.drop (.drop (.keep (.keep (.keep (.keep (.keep (.keep .nil))))))))))))))))) ?_
                              refine wr_is [(2, (.ptr (ix ids 0) g 0 0)), (5, (.ptr (ix ids 1) g1 0 0)), (7, (.str x6)), (16, (.int .i64 (IntKind.wrap .i64 b))), (17, v2)] (.cons rfl (.cons rfl (.cons rfl (.cons rfl (.cons rfl .nil))))) ?_
                              refine hJ7 x9 _ _ ?_
                              exact ⟨v2, g9, vH3, rfl, rfl⟩
                          · refine wo_valg (tj := 188) (.int .i64 a11) rfl (congrArg AV.bool hb5) rfl pv_move ?_
                            refine wo_valg (tj := 188) (.ptr (ix ids 9) g10 0 1) rfl (congrArg AV.bool hb5) rfl (pv_fa (fa_ptr (c := 0) (off := 1) (i := 1) ti31 rfl ti23 rfl)) ?_
                            refine wo_valg (tj := 188) v3 rfl (congrArg AV.bool hb5) rfl (pv_load (ld_ptr hI rfl rfl rfl ti23 rfl)) ?_
                            refine wo_valg (tj := 188) (.int .i64 (a.Sectors.length : Int)) rfl (congrArg AV.bool hb5) rfl (pv_len (OwnV.len vH4 ti23)) ?_
                            refine wo_valg (tj := 188) (.bool (decide (a11 < (a.Sectors.length : Int)))) rfl (congrArg AV.bool hb5) rfl (pv_bin rfl rfl rfl) ?_
                            refine wo_val (.bool (decide (a11 < (a.Sectors.length : Int)))) rfl (pv_pick (t := true) (congrArg AV.bool hb5) rfl) ?_
                            exact wo_is [(2, (.ptr (ix ids 0) g 0 0)), (5, (.ptr (ix ids 1) g1 0 0)), (7, (.str x6)), (16, (.int .i64 (IntKind.wrap .i64 b))), (17, v2), (22, (.ptr (ix ids 9) g10 0 0)), (23, (.int .i64 a11)), (194, (.bool ((decide (a11 ≥ 0)) && (decide (a11 < (a.Sectors.length : Int))))))] (.cons rfl (.cons rfl (.cons rfl (.cons rfl (.cons rfl (.cons rfl (.cons rfl (.cons (and_t hb5) .nil)))))))) hJ1
                          · refine wo_not (tj := 188) (b := false) rfl (congrArg AV.bool hb5) rfl rfl ?_
                            refine wo_not (tj := 188) (b := false) rfl (congrArg AV.bool hb5) rfl rfl ?_
                            refine wo_not (tj := 188) (b := false) rfl (congrArg AV.bool hb5) rfl rfl ?_
                            refine wo_not (tj := 188) (b := false) rfl (congrArg AV.bool hb5) rfl rfl ?_
                            refine wo_not (tj := 188) (b := false) rfl (congrArg AV.bool hb5) rfl rfl ?_
                            refine wo_val (.bool false) rfl (pv_pick (t := false) (congrArg AV.bool hb5) rfl) ?_
                            exact wo_is [(2, (.ptr (ix ids 0) g 0 0)), (5, (.ptr (ix ids 1) g1 0 0)), (7, (.str x6)), (16, (.int .i64 (IntKind.wrap .i64 b))), (17, v2), (22, (.ptr (ix ids 9) g10 0 0)), (23, (.int .i64 a11)), (194, (.bool ((decide (a11 ≥ 0)) && (decide (a11 < (a.Sectors.length : Int))))))] (.cons rfl (.cons rfl (.cons rfl (.cons rfl (.cons rfl (.cons rfl (.cons rfl (.cons (and_f hb5) .nil)))))))) hJ1
                        · refine wr_skip ?_
                          refine wr_is [(2, (.ptr (ix ids 0) g 0 0)), (5, (.ptr (ix ids 1) g1 0 0)), (7, (.str x6)), (16, (.int .i64 (IntKind.wrap .i64 b))), (17, v2)] (.cons rfl (.cons rfl (.cons rfl (.cons rfl (.cons rfl .nil))))) ?_
                          refine hJ7 x9 _ _ ?_
                          exact ⟨v2, g9, vH3, rfl, rfl⟩
                    · refine wr_draw hmix [[], [0], [0, 1], [0, 1, 2], [0, 1, 2, 3], [0, 1, 2], [0, 1, 2], [0, 1, 2, 5, 6], [0, 1, 2, 3, 4, 5, 6, 7], [0, 1, 2, 3, 4, 5, 6, 7, 8], [0, 1, 2, 3, 4, 5, 6, 7, 8, 9], [0, 1, 2, 3, 4, 5, 6, 7, 8, 9, 10], [0, 1, 2, 3, 4, 5, 6, 7, 8, 9, 10, 11], [0, 1, 2, 3, 4, 5, 6, 7, 8, 9, 10, 11, 12]] [(false, 0), (false, 1), (false, 2), (false, 3), (false, 4), (false, 5), (false, 6), (false, 7), (false, 8), (false, 9), (false, 10), (false, 11), (false, 12), (false, 13)] (by kernel_rfl) ?_
                      refine wp_val (.int .i64 (r2.1.Configs.length : Int)) rfl rfl pv_move ?_
                      refine wp_val (.bool (decide ((r2.1.Configs.length : Int) > 0))) rfl rfl (pv_bin rfl rfl rfl) ?_
                      refine wp_val (.bool (decide ((r2.1.Configs.length : Int) > 0))) rfl rfl pv_move ?_
                      refine op_iteb (fun hb3 => ?_) (fun hb3 => ?_)
                      · refine wp_valg (tj := 158) (.ptr (ix ids 1) g1 0 2) rfl rfl (congrArg AV.bool hb3) rfl (pv_fa (fa_ptr (c := 0) (off := 2) (i := 2) ti31 rfl ti24 rfl)) ?_
                        refine wp_valg (tj := 158) (.sl 3 (List.map rConfig r2.1.Configs)) rfl rfl (congrArg AV.bool hb3) rfl (pv_load (ld_ptr hI rfl rfl rfl ti24 rfl)) ?_
                        refine wp_valg (tj := 158) (.int .i64 (IntKind.wrap .i64 b)) rfl rfl (congrArg AV.bool hb3) rfl pv_move ?_
                        refine wp_valg (tj := 158) (.int .i64 (r2.1.Configs.length : Int)) rfl rfl (congrArg AV.bool hb3) rfl pv_move ?_
                        refine op_need fun hz6 => ?_
                        refine wp_valg (tj := 158) (.int .i64 (Int.tmod (IntKind.wrap .i64 b) (r2.1.Configs.length : Int))) rfl rfl (congrArg AV.bool hb3) rfl (pv_bin rfl rfl (bin_rem rfl hz6)) ?_
                        refine op_idx fun a9 hz7 hx6 => ?_
                        refine wp_valg (tj := 158) (.cp (rConfig a9) 0) rfl rfl (congrArg AV.bool hb3) rfl (pv_ixa (ixa_sl ti24 ti55 rfl hz7 hx6)) ?_
                        refine wp_valg (tj := 158) (.cp (rConfig a9) 2) rfl rfl (congrArg AV.bool hb3) rfl (pv_fa (fa_cp (c := 0) (off := 2) (i := 2) ti55 rfl ti51 rfl)) ?_
                        refine wp_valg (tj := 158) (.sl 1 (List.map (rI .i64) a9.Sectors)) rfl rfl (congrArg AV.bool hb3) rfl (pv_load (ld_cp ti51 rfl)) ?_
                        refine wp_valg (tj := 158) (.int .i64 (a9.Sectors.length : Int)) rfl rfl (congrArg AV.bool hb3) rfl (pv_len (len_sl ti51)) ?_
                        refine wp_valg (tj := 158) (.bool (decide ((a9.Sectors.length : Int) > 0))) rfl rfl (congrArg AV.bool hb3) rfl (pv_bin rfl rfl rfl) ?_
                        refine wp_val (.bool (decide ((a9.Sectors.length : Int) > 0))) rfl rfl (pv_pick (t := true) (congrArg AV.bool hb3) rfl) ?_
                        refine wp_nil ?_
                        refine wr_is [(2, (.ptr (ix ids 0) g 0 0)), (5, (.ptr (ix ids 1) g1 0 0)), (7, (.str x6)), (16, (.int .i64 (IntKind.wrap .i64 b))), (17, v2), (21, (.int .i64 (r2.1.Configs.length : Int))), (169, (.bool (decide ((a9.Sectors.length : Int) > 0))))] (.cons rfl (.cons rfl (.cons rfl (.cons rfl (.cons rfl (.cons rfl (.cons rfl .nil))))))) ?_
                        refine hJ8 (decide ((a9.Sectors.length : Int) > 0)) _ _ ?_
                        exact ⟨rfl, rfl⟩
                      · refine wp_not (tj := 158) (b := false) rfl rfl (congrArg AV.bool hb3) rfl rfl ?_
                        refine wp_not (tj := 158) (b := false) rfl rfl (congrArg AV.bool hb3) rfl rfl ?_
                        refine wp_not (tj := 158) (b := false) rfl rfl (congrArg AV.bool hb3) rfl rfl ?_
                        refine wp_not (tj := 158) (b := false) rfl rfl (congrArg AV.bool hb3) rfl rfl ?_
                        refine wp_not (tj := 158) (b := false) rfl rfl (congrArg AV.bool hb3) rfl rfl ?_
                        refine wp_not (tj := 158) (b := false) rfl rfl (congrArg AV.bool hb3) rfl rfl ?_
                        refine wp_not (tj := 158) (b := false) rfl rfl (congrArg AV.bool hb3) rfl rfl ?_
                        refine wp_not (tj := 158) (b := false) rfl rfl (congrArg AV.bool hb3) rfl rfl ?_
                        refine wp_not (tj := 158) (b := false) rfl rfl (congrArg AV.bool hb3) rfl rfl ?_
                        refine wp_not (tj := 158) (b := false) rfl rfl (congrArg AV.bool hb3) rfl rfl ?_
                        refine wp_val (.bool false) rfl rfl (pv_pick (t := false) (congrArg AV.bool hb3) rfl) ?_
                        refine wp_nil ?_
                        refine wr_is [(2, (.ptr (ix ids 0) g 0 0)), (5, (.ptr (ix ids 1) g1 0 0)), (7, (.str x6)), (16, (.int .i64 (IntKind.wrap .i64 b))), (17, v2), (21, (.int .i64 (r2.1.Configs.length : Int))), (169, (.bool false))] (.cons rfl (.cons rfl (.cons rfl (.cons rfl (.cons rfl (.cons rfl (.cons rfl .nil))))))) ?_
                        refine hJ8 false _ _ ?_
                        exact ⟨rfl, rfl⟩
                  · refine wf_iteb rfl (fun hc3 => ?_) (fun hc3 => ?_)
                    · refine wr_seq ?_
                      refine wr_region ?_
                      refine wo_val (.agg (rAirspace a)) rfl (pv_load (ld_ptr hI rfl rfl rfl ti31 rfl)) ?_
                      refine wo_alloc (j := 6) hI rfl rfl rfl rfl ti31 rfl fun g6 => ?_
                      refine wo_store (st_ptr hI rfl rfl rfl rfl ti31 rfl rfl rfl rfl rfl) ?_
                      refine wo_nil ?_
                      refine wr_hp [(some (.rows g 8 [(rAirspace a)])), (some (.rows g1 8 [(rAirspace r2.1)])), none, none, none, none, (some (.rows g6 8 [(rAirspace a)])), none, none, none, none, none, none, none, none, none, none] rfl ?_
                      refine wr_seq ?_
                      refine wr_region ?_
                      refine wo_bs0 rfl ti22 ti41 ?_
                      refine wo_val (.ptr (ix ids 0) g 0 0) rfl (pv_fa (fa_ptr (c := 0) (off := 0) (i := 0) ti31 rfl ti22 rfl)) ?_
                      refine wo_val (.sl 2 (List.map rVolume a.Volumes)) rfl (pv_load (ld_ptr hI rfl rfl rfl ti22 rfl)) ?_
                      refine of_need fun hl8 => ?_
                      refine wo_append (e := rVolume) (L := ([] : List Volume)) (L2 := a.Volumes) (v := .emp) (g := 0) (st := 2) (j := 7) hI rfl rfl rfl rfl .nil rfl (src_sl rfl) ti22 ti22 rfl ti41 rfl rfl rfl (by simpa using hl8) fun v g7 vH => ?_
                      refine wo_val (.ptr (ix ids 6) g6 0 0) rfl (pv_fa (fa_ptr (c := 0) (off := 0) (i := 0) ti31 rfl ti22 rfl)) ?_
                      refine wo_store (st_ptrO vH hI rfl rfl rfl rfl ti22 rfl rfl rfl) ?_
                      refine wo_nil ?_
                      refine wr_hp [(some (.rows g 8 [(rAirspace a)])), (some (.rows g1 8 [(rAirspace r2.1)])), none, none, none, none, (some (.rows g6 8 [[v, (.sl 5 (List.map rSector a.Sectors)), (.sl 3 (List.map rConfig a.Configs)), (.sl 5 (List.map rSegment a.Segments)), (.sl 7 (List.map rRoute a.Routes)), (.sl 2 (List.map rAirport a.Airports)), (.sl 4 (List.map rClass a.Classes)), (.sl 8 (List.map rRule a.Rules))]])), (ownO v g7 2 (List.map rVolume a.Volumes)), none, none, none, none, none, none, none, none, none] rfl ?_
                      refine wr_seq ?_
                      refine wr_draw hmix [[], [0], [], [], [2, 3], [0, 1, 2, 3, 4], [0, 1, 2, 3, 4, 5], [0, 1, 2, 3, 4, 5, 6], [0, 1, 2, 3, 4, 5, 6, 7], [0, 1, 2, 3, 4, 5, 6, 7, 8], [0, 1, 2, 3, 4, 5, 6, 7, 8, 9, 9]] [(false, 0), (false, 1), (false, 2), (false, 3), (false, 4), (false, 5), (false, 6), (false, 7), (false, 8), (false, 9), (false, 10)] (by kernel_rfl) ?_
                      refine wp_val (.ptr (ix ids 1) g1 0 1) rfl rfl (pv_fa (fa_ptr (c := 0) (off := 1) (i := 1) ti31 rfl ti23 rfl)) ?_
                      refine wp_val (.sl 5 (List.map rSector r2.1.Sectors)) rfl rfl (pv_load (ld_ptr hI rfl rfl rfl ti23 rfl)) ?_
                      refine wp_val (.int .i64 (IntKind.wrap .i64 b)) rfl rfl pv_move ?_
                      refine wp_val (.int .i64 (r2.1.Sectors.length : Int)) rfl rfl pv_move ?_
                      refine op_need fun hz2 => ?_
                      refine wp_val (.int .i64 (Int.tmod (IntKind.wrap .i64 b) (r2.1.Sectors.length : Int))) rfl rfl (pv_bin rfl rfl (bin_rem rfl hz2)) ?_
                      refine op_idx fun a6 hz3 hx2 => ?_
                      refine wp_val (.cp (rSector a6) 0) rfl rfl (pv_ixa (ixa_sl ti23 ti53 rfl hz3 hx2)) ?_
                      refine wp_val (.cp (rSector a6) 2) rfl rfl (pv_fa (fa_cp (c := 0) (off := 2) (i := 2) ti53 rfl ti51 rfl)) ?_
                      refine wp_val (.sl 1 (List.map (rI .i64) a6.Volumes)) rfl rfl (pv_load (ld_cp ti51 rfl)) ?_
                      refine op_idx fun a7 hz4 hx3 => ?_
                      refine wp_val (.cp [(.int .i64 a7)] 0) rfl rfl (pv_ixa (ixa_sl ti51 ti3 rfl hz4 hx3)) ?_
                      refine wp_val (.int .i64 a7) rfl rfl (pv_load (ld_cp ti3 rfl)) ?_
                      refine wp_val (.int .i64 a7) rfl rfl pv_assign ?_
                      refine wp_nil ?_
                      refine wr_seq ?_
                      refine wr_region ?_
                      refine wo_val (.int .i64 a7) rfl pv_move ?_
                      refine wo_val (.bool (decide (a7 ≥ 0))) rfl (pv_bin rfl rfl rfl) ?_
                      refine wo_val (.bool (decide (a7 ≥ 0))) rfl pv_move ?_
                      refine wo_meet 6 [(2, (.ptr (ix ids 0) g 0 0)), (5, (.ptr (ix ids 1) g1 0 0)), (7, (.str x6)), (16, (.int .i64 (IntKind.wrap .i64 b))), (17, .emp), (19, (.ptr (ix ids 6) g6 0 0)), (20, (.int .i64 a7)), (141, (.bool ((decide (a7 ≥ 0)) && (decide (a7 < (a.Volumes.length : Int))))))] ?_ fun hJ => wo_cases (decide (a7 ≥ 0)) (fun hb2 => ?_) (fun hb2 => ?_)
                      · refine wo_nil ?_
                        refine wf_iteb rfl (fun hc4 => ?_) (fun hc4 => ?_)
                        · refine wr_seq ?_
                          refine wr_region ?_
                          refine wo_val (.ptr (ix ids 6) g6 0 0) rfl (pv_fa (fa_ptr (c := 0) (off := 0) (i := 0) ti31 rfl ti22 rfl)) ?_
                          refine wo_val v rfl (pv_load (ld_ptr hI rfl rfl rfl ti22 rfl)) ?_
                          refine wo_val (.int .i64 a7) rfl pv_move ?_
                          refine wo_val (.str x6) rfl pv_move ?_
                          refine of_need fun hl9 => ?_
                          refine wo_val (.str (x6 ++ [118, 111, 108, 117, 109, 101])) rfl (pv_bin rfl rfl (bin_cat hl9)) ?_
                          refine of_idx fun a8 hz5 hx4 => ?_
                          refine wo_val (.ptr (ix ids 7) g7 a7.toNat 0) rfl (pv_ixa (ixa_own hI rfl vH rfl ti22 ti41 rfl hz5 hx4)) ?_
                          refine wo_val (.ptr (ix ids 7) g7 a7.toNat 0) rfl (pv_fa (fa_ptr (c := 0) (off := 0) (i := 0) ti41 rfl ti9 rfl)) ?_
                          refine wo_store (st_own (y := { a8 with Name := (x6 ++ [118, 111, 108, 117, 109, 101]) }) hI rfl rfl vH rfl hx4 ti9 rfl rfl rfl rfl rfl rfl) ?_
                          have vH1 := OwnV.set (i := a7.toNat) (y := { a8 with Name := (x6 ++ [118, 111, 108, 117, 109, 101]) }) vH
                          have hx5 := List.getElem?_set_self (a := { a8 with Name := (x6 ++ [118, 111, 108, 117, 109, 101]) }) (lt_of_get hx4)
                          refine wo_nil ?_
                          refine wr_hp [(some (.rows g 8 [(rAirspace a)])), (some (.rows g1 8 [(rAirspace r2.1)])), none, none, none, none, (some (.rows g6 8 [[v, (.sl 5 (List.map rSector a.Sectors)), (.sl 3 (List.map rConfig a.Configs)), (.sl 5 (List.map rSegment a.Segments)), (.sl 7 (List.map rRoute a.Routes)), (.sl 2 (List.map rAirport a.Airports)), (.sl 4 (List.map rClass a.Classes)), (.sl 8 (List.map rRule a.Rules))]])), (ownO v g7 2 (List.map rVolume (a.Volumes.set a7.toNat { a8 with Name := (x6 ++ [118, 111, 108, 117, 109, 101]) }))), none, none, none, none, none, none, none, none, none] rfl ?_
                          refine wr_region ?_
                          refine wo_val .emp rfl pv_move ?_
                          refine wo_val (.agg [v, (.sl 5 (List.map rSector a.Sectors)), (.sl 3 (List.map rConfig a.Configs)), (.sl 5 (List.map rSegment a.Segments)), (.sl 7 (List.map rRoute a.Routes)), (.sl 2 (List.map rAirport a.Airports)), (.sl 4 (List.map rClass a.Classes)), (.sl 8 (List.map rRule a.Rules))]) rfl (pv_load (ld_ptr hI rfl rfl rfl ti31 rfl)) ?_
                          refine wo_frz (h2 := hp h0 ids [(some (.rows g 8 [(rAirspace a)])), (some (.rows g1 8 [(rAirspace r2.1)])), none, none, none, none, none, none, none, none, none, none, none, none, none, none, none]) [(2, (.ptr (ix ids 0) g 0 0)), (5, (.ptr (ix ids 1) g1 0 0)), (7, (.str x6)), (16, (.int .i64 (IntKind.wrap .i64 b))), (149, .emp), (150, (.agg (rAirspace ({ Volumes := (a.Volumes.set a7.toNat { a8 with Name := (x6 ++ [118, 111, 108, 117, 109, 101]) }), Sectors := a.Sectors, Configs := a.Configs, Segments := a.Segments, Routes := a.Routes, Airports := a.Airports, Classes := a.Classes, Rules := a.Rules } : Airspace))))] (Drops.sub (.keep (.keep (.keep (.keep (.keep (.keep (.drop (.drop (.keep (.keep (.keep (.keep (.keep (.keep (.keep (.keep (.keep .nil))))))))))))))))) hI.len) (.cons (.same _) (.cons (.same _) (.cons (.same _) (.cons (.same _) (.cons (.same _) (.cons (.aggL (.cons (own_fz vH1 (hI.at rfl rfl) (hI.at rfl rfl) (fun x => ok_Volume x)) (.cons (.same _) (.cons (.same _) (.cons (.same _) (.cons (.same _) (.cons (.same _) (.cons (.same _) (.cons (.same _) .nil))))))))) .nil)))))) rfl rfl ?_
                          refine wo_bsC (e := rAirspace) (L := [({ Volumes := (a.Volumes.set a7.toNat { a8 with Name := (x6 ++ [118, 111, 108, 117, 109, 101]) }), Sectors := a.Sectors, Configs := a.Configs, Segments := a.Segments, Routes := a.Routes, Airports := a.Airports, Classes := a.Classes, Rules := a.Rules } : Airspace)]) (st := 8) (rows := [[(.sl 2 (List.map rVolume ({ Volumes := (a.Volumes.set a7.toNat { a8 with Name := (x6 ++ [118, 111, 108, 117, 109, 101]) }), Sectors := a.Sectors, Configs := a.Configs, Segments := a.Segments, Routes := a.Routes, Airports := a.Airports, Classes := a.Classes, Rules := a.Rules } : Airspace).Volumes)), (.sl 5 (List.map rSector ({ Volumes := (a.Volumes.set a7.toNat { a8 with Name := (x6 ++ [118, 111, 108, 117, 109, 101]) }), Sectors := a.Sectors, Configs := a.Configs, Segments := a.Segments, Routes := a.Routes, Airports := a.Airports, Classes := a.Classes, Rules := a.Rules } : Airspace).Sectors)), (.sl 3 (List.map rConfig ({ Volumes := (a.Volumes.set a7.toNat { a8 with Name := (x6 ++ [118, 111, 108, 117, 109, 101]) }), Sectors := a.Sectors, Configs := a.Configs, Segments := a.Segments, Routes := a.Routes, Airports := a.Airports, Classes := a.Classes, Rules := a.Rules } : Airspace).Configs)), (.sl 5 (List.map rSegment ({ Volumes := (a.Volumes.set a7.toNat { a8 with Name := (x6 ++ [118, 111, 108, 117, 109, 101]) }), Sectors := a.Sectors, Configs := a.Configs, Segments := a.Segments, Routes := a.Routes, Airports := a.Airports, Classes := a.Classes, Rules := a.Rules } : Airspace).Segments)), (.sl 7 (List.map rRoute ({ Volumes := (a.Volumes.set a7.toNat { a8 with Name := (x6 ++ [118, 111, 108, 117, 109, 101]) }), Sectors := a.Sectors, Configs := a.Configs, Segments := a.Segments, Routes := a.Routes, Airports := a.Airports, Classes := a.Classes, Rules := a.Rules } : Airspace).Routes)), (.sl 2 (List.map rAirport ({ Volumes := (a.Volumes.set a7.toNat { a8 with Name := (x6 ++ [118, 111, 108, 117, 109, 101]) }), Sectors := a.Sectors, Configs := a.Configs, Segments := a.Segments, Routes := a.Routes, Airports := a.Airports, Classes := a.Classes, Rules := a.Rules } : Airspace).Airports)), (.sl 4 (List.map rClass ({ Volumes := (a.Volumes.set a7.toNat { a8 with Name := (x6 ++ [118, 111, 108, 117, 109, 101]) }), Sectors := a.Sectors, Configs := a.Configs, Segments := a.Segments, Routes := a.Routes, Airports := a.Airports, Classes := a.Classes, Rules := a.Rules } : Airspace).Classes)), (.sl 8 (List.map rRule ({ Volumes := (a.Volumes.set a7.toNat { a8 with Name := (x6 ++ [118, 111, 108, 117, 109, 101]) }), Sectors := a.Sectors, Configs := a.Configs, Segments := a.Segments, Routes := a.Routes, Airports := a.Airports, Classes := a.Classes, Rules := a.Rules } : Airspace).Rules))]]) rfl ti64 ti31 rfl rfl rfl rfl rfl (.cons (RowSim.refl _) .nil) (fun x => ok_Airspace x) rfl rfl ?_
                          refine of_need fun hl10 => ?_
                          refine wo_append (e := rAirspace) (L := ([] : List Airspace)) (L2 := [({ Volumes := (a.Volumes.set a7.toNat { a8 with Name := (x6 ++ [118, 111, 108, 117, 109, 101]) }), Sectors := a.Sectors, Configs := a.Configs, Segments := a.Segments, Routes := a.Routes, Airports := a.Airports, Classes := a.Classes, Rules := a.Rules } : Airspace)]) (v := .emp) (g := 0) (st := 8) (j := 8) hI rfl rfl rfl rfl .nil rfl (src_sl rfl) ti64 ti64 rfl ti31 rfl rfl rfl (by simpa using hl10) fun v1 g8 vH2 => ?_
                          refine wo_val v1 rfl pv_assign ?_
                          refine wo_nil ?_
                          refine wr_hp [(some (.rows g 8 [(rAirspace a)])), (some (.rows g1 8 [(rAirspace r2.1)])), none, none, none, none, none, none, (ownO v1 g8 8 (List.map rAirspace [({ Volumes := (a.Volumes.set a7.toNat { a8 with Name := (x6 ++ [118, 111, 108, 117, 109, 101]) }), Sectors := a.Sectors, Configs := a.Configs, Segments := a.Segments, Routes := a.Routes, Airports := a.Airports, Classes := a.Classes, Rules := a.Rules } : Airspace)])), none, none, none, none, none, none, none, none] rfl ?_
                          refine wr_is [(2, (.ptr (ix ids 0) g 0 0)), (5, (.ptr (ix ids 1) g1 0 0)), (7, (.str x6)), (16, (.int .i64 (IntKind.wrap .i64 b))), (17, v1)] (.cons rfl (.cons rfl (.cons rfl (.cons rfl (.cons rfl .nil))))) ?_
                          refine hJ9 [({ Volumes := (a.Volumes.set a7.toNat { a8 with Name := (x6 ++ [118, 111, 108, 117, 109, 101]) }), Sectors := a.Sectors, Configs := a.Configs, Segments := a.Segments, Routes := a.Routes, Airports := a.Airports, Classes := a.Classes, Rules := a.Rules } : Airspace)] _ _ ?_
                          exact ⟨v1, g8, vH2, rfl, rfl⟩
                        · refine wr_skip ?_
                          refine wr_drop [(some (.rows g 8 [(rAirspace a)])), (some (.rows g1 8 [(rAirspace r2.1)])), none, none, none, none, none, none, none, none, none, none, none, none, none, none, none] hI rfl (.keep (.keep (.keep (.keep (.keep (.keep (.drop (.drop (.keep (.keep (.keep (.keep (.keep (.keep (.keep (.keep (.keep .nil))))))))))))))))) ?_
                          refine wr_is [(2, (.ptr (ix ids 0) g 0 0)), (5, (.ptr (ix ids 1) g1 0 0)), (7, (.str x6)), (16, (.int .i64 (IntKind.wrap .i64 b))), (17, .emp)] (.cons rfl (.cons rfl (.cons rfl (.cons rfl (.cons rfl .nil))))) ?_
                          refine hJ9 [] _ _ ?_
                          exact ⟨.emp, 0, .nil, rfl, rfl⟩
                      · refine wo_valg (tj := 135) (.int .i64 a7) rfl (congrArg AV.bool hb2) rfl pv_move ?_
                        refine wo_valg (tj := 135) (.ptr (ix ids 6) g6 0 0) rfl (congrArg AV.bool hb2) rfl (pv_fa (fa_ptr (c := 0) (off := 0) (i := 0) ti31 rfl ti22 rfl)) ?_
                        refine wo_valg (tj := 135) v rfl (congrArg AV.bool hb2) rfl (pv_load (ld_ptr hI rfl rfl rfl ti22 rfl)) ?_
                        refine wo_valg (tj := 135) (.int .i64 (a.Volumes.length : Int)) rfl (congrArg AV.bool hb2) rfl (pv_len (OwnV.len vH ti22)) ?_
                        refine wo_valg (tj := 135) (.bool (decide (a7 < (a.Volumes.length : Int)))) rfl (congrArg AV.bool hb2) rfl (pv_bin rfl rfl rfl) ?_
                        refine wo_val (.bool (decide (a7 < (a.Volumes.length : Int)))) rfl (pv_pick (t := true) (congrArg AV.bool hb2) rfl) ?_
                        exact wo_is [(2, (.ptr (ix ids 0) g 0 0)), (5, (.ptr (ix ids 1) g1 0 0)), (7, (.str x6)), (16, (.int .i64 (IntKind.wrap .i64 b))), (17, .emp), (19, (.ptr (ix ids 6) g6 0 0)), (20, (.int .i64 a7)), (141, (.bool ((decide (a7 ≥ 0)) && (decide (a7 < (a.Volumes.length : Int))))))] (.cons rfl (.cons rfl (.cons rfl (.cons rfl (.cons rfl (.cons rfl (.cons rfl (.cons (and_t hb2) .nil)))))))) hJ
                      · refine wo_not (tj := 135) (b := false) rfl (congrArg AV.bool hb2) rfl rfl ?_
                        refine wo_not (tj := 135) (b := false) rfl (congrArg AV.bool hb2) rfl rfl ?_
                        refine wo_not (tj := 135) (b := false) rfl (congrArg AV.bool hb2) rfl rfl ?_
                        refine wo_not (tj := 135) (b := false) rfl (congrArg AV.bool hb2) rfl rfl ?_
                        refine wo_not (tj := 135) (b := false) rfl (congrArg AV.bool hb2) rfl rfl ?_
                        refine wo_val (.bool false) rfl (pv_pick (t := false) (congrArg AV.bool hb2) rfl) ?_
                        exact wo_is [(2, (.ptr (ix ids 0) g 0 0)), (5, (.ptr (ix ids 1) g1 0 0)), (7, (.str x6)), (16, (.int .i64 (IntKind.wrap .i64 b))), (17, .emp), (19, (.ptr (ix ids 6) g6 0 0)), (20, (.int .i64 a7)), (141, (.bool ((decide (a7 ≥ 0)) && (decide (a7 < (a.Volumes.length : Int))))))] (.cons rfl (.cons rfl (.cons rfl (.cons rfl (.cons rfl (.cons rfl (.cons rfl (.cons (and_f hb2) .nil)))))))) hJ
                    · refine wr_skip ?_
                      refine wr_is [(2, (.ptr (ix ids 0) g 0 0)), (5, (.ptr (ix ids 1) g1 0 0)), (7, (.str x6)), (16, (.int .i64 (IntKind.wrap .i64 b))), (17, .emp)] (.cons rfl (.cons rfl (.cons rfl (.cons rfl (.cons rfl .nil))))) ?_
                      refine hJ9 [] _ _ ?_
                      exact ⟨.emp, 0, .nil, rfl, rfl⟩
                · refine wr_draw hmix [[], [0], [0, 1], [0, 1, 2], [0, 1, 2, 3], [0, 1, 2], [0, 1, 2], [0, 1, 2, 5, 6], [0, 1, 2, 3, 4, 5, 6, 7], [0, 1, 2, 3, 4, 5, 6, 7, 8], [0, 1, 2, 3, 4, 5, 6, 7, 8, 9], [0, 1, 2, 3, 4, 5, 6, 7, 8, 9, 10], [0, 1, 2, 3, 4, 5, 6, 7, 8, 9, 10, 11], [0, 1, 2, 3, 4, 5, 6, 7, 8, 9, 10, 11, 12]] [(false, 0), (false, 1), (false, 2), (false, 3), (false, 4), (false, 5), (false, 6), (false, 7), (false, 8), (false, 9), (false, 10), (false, 11), (false, 12), (false, 13)] (by kernel_rfl) ?_
                  refine wp_val (.int .i64 (r2.1.Sectors.length : Int)) rfl rfl pv_move ?_
                  refine wp_val (.bool (decide ((r2.1.Sectors.length : Int) > 0))) rfl rfl (pv_bin rfl rfl rfl) ?_
                  refine wp_val (.bool (decide ((r2.1.Sectors.length : Int) > 0))) rfl rfl pv_move ?_
                  refine op_iteb (fun hb => ?_) (fun hb => ?_)
                  · refine wp_valg (tj := 105) (.ptr (ix ids 1) g1 0 1) rfl rfl (congrArg AV.bool hb) rfl (pv_fa (fa_ptr (c := 0) (off := 1) (i := 1) ti31 rfl ti23 rfl)) ?_
                    refine wp_valg (tj := 105) (.sl 5 (List.map rSector r2.1.Sectors)) rfl rfl (congrArg AV.bool hb) rfl (pv_load (ld_ptr hI rfl rfl rfl ti23 rfl)) ?_
                    refine wp_valg (tj := 105) (.int .i64 (IntKind.wrap .i64 b)) rfl rfl (congrArg AV.bool hb) rfl pv_move ?_
                    refine wp_valg (tj := 105) (.int .i64 (r2.1.Sectors.length : Int)) rfl rfl (congrArg AV.bool hb) rfl pv_move ?_
                    refine op_need fun hz => ?_
                    refine wp_valg (tj := 105) (.int .i64 (Int.tmod (IntKind.wrap .i64 b) (r2.1.Sectors.length : Int))) rfl rfl (congrArg AV.bool hb) rfl (pv_bin rfl rfl (bin_rem rfl hz)) ?_
                    refine op_idx fun a5 hz1 hx1 => ?_
                    refine wp_valg (tj := 105) (.cp (rSector a5) 0) rfl rfl (congrArg AV.bool hb) rfl (pv_ixa (ixa_sl ti23 ti53 rfl hz1 hx1)) ?_
                    refine wp_valg (tj := 105) (.cp (rSector a5) 2) rfl rfl (congrArg AV.bool hb) rfl (pv_fa (fa_cp (c := 0) (off := 2) (i := 2) ti53 rfl ti51 rfl)) ?_
                    refine wp_valg (tj := 105) (.sl 1 (List.map (rI .i64) a5.Volumes)) rfl rfl (congrArg AV.bool hb) rfl (pv_load (ld_cp ti51 rfl)) ?_
                    refine wp_valg (tj := 105) (.int .i64 (a5.Volumes.length : Int)) rfl rfl (congrArg AV.bool hb) rfl (pv_len (len_sl ti51)) ?_
                    refine wp_valg (tj := 105) (.bool (decide ((a5.Volumes.length : Int) > 0))) rfl rfl (congrArg AV.bool hb) rfl (pv_bin rfl rfl rfl) ?_
                    refine wp_val (.bool (decide ((a5.Volumes.length : Int) > 0))) rfl rfl (pv_pick (t := true) (congrArg AV.bool hb) rfl) ?_
                    refine wp_nil ?_
                    refine wr_is [(2, (.ptr (ix ids 0) g 0 0)), (5, (.ptr (ix ids 1) g1 0 0)), (7, (.str x6)), (16, (.int .i64 (IntKind.wrap .i64 b))), (17, .emp), (18, (.int .i64 (r2.1.Sectors.length : Int))), (116, (.bool (decide ((a5.Volumes.length : Int) > 0))))] (.cons rfl (.cons rfl (.cons rfl (.cons rfl (.cons rfl (.cons rfl (.cons rfl .nil))))))) ?_
                    refine hJ10 (decide ((a5.Volumes.length : Int) > 0)) _ _ ?_
                    exact ⟨rfl, rfl⟩
                  · refine wp_not (tj := 105) (b := false) rfl rfl (congrArg AV.bool hb) rfl rfl ?_
                    refine wp_not (tj := 105) (b := false) rfl rfl (congrArg AV.bool hb) rfl rfl ?_
                    refine wp_not (tj := 105) (b := false) rfl rfl (congrArg AV.bool hb) rfl rfl ?_
                    refine wp_not (tj := 105) (b := false) rfl rfl (congrArg AV.bool hb) rfl rfl ?_
                    refine wp_not (tj := 105) (b := false) rfl rfl (congrArg AV.bool hb) rfl rfl ?_
                    refine wp_not (tj := 105) (b := false) rfl rfl (congrArg AV.bool hb) rfl rfl ?_
                    refine wp_not (tj := 105) (b := false) rfl rfl (congrArg AV.bool hb) rfl rfl ?_
                    refine wp_not (tj := 105) (b := false) rfl rfl (congrArg AV.bool hb) rfl rfl ?_
                    refine wp_not (tj := 105) (b := false) rfl rfl (congrArg AV.bool hb) rfl rfl ?_
                    refine wp_not (tj := 105) (b := false) rfl rfl (congrArg AV.bool hb) rfl rfl ?_
                    refine wp_val (.bool false) rfl rfl (pv_pick (t := false) (congrArg AV.bool hb) rfl) ?_
                    refine wp_nil ?_
                    refine wr_is [(2, (.ptr (ix ids 0) g 0 0)), (5, (.ptr (ix ids 1) g1 0 0)), (7, (.str x6)), (16, (.int .i64 (IntKind.wrap .i64 b))), (17, .emp), (18, (.int .i64 (r2.1.Sectors.length : Int))), (116, (.bool false))] (.cons rfl (.cons rfl (.cons rfl (.cons rfl (.cons rfl (.cons rfl (.cons rfl .nil))))))) ?_
                    refine hJ10 false _ _ ?_
                    exact ⟨rfl, rfl⟩
    · refine wr_seq ?_
      refine wr_region ?_
      refine wo_val (.bool true) rfl pv_assign ?_
      refine wo_nil ?_
      exact wr_ret (a := true) (vs := [(.bool true)]) Try.func8 hI rfl (.same _)
  · refine wr_seq ?_
    refine wr_region ?_
    refine wo_val (.bool false) rfl pv_assign ?_
    refine wo_nil ?_
    exact wr_ret (a := false) (vs := [(.bool false)]) Try.func8 hI rfl (.same _)
end Go.Am

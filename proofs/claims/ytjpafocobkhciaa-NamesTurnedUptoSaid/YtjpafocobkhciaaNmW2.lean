/- The models hold of the program. Written by dc.py. -/
import Derived.Test.YtjpafocobkhciaaNmW1
namespace Go.Am
open Go Go.Proofs
set_option maxRecDepth 100000
set_option linter.unusedSimpArgs false
set_option linter.unusedVariables false
theorem cp_ref09_Few (a : Airspace) : CP Try.prog 11 [(.agg (rAirspace a))] (ref09_Few a) (fun (x : Bool) => (AV.bool x)) := by
  refine cp_intro (n := 107) 1 Try.func11 rfl (by decide) rfl rfl fun h0 ids hI => ?_
  refine wr_in (wr_mod (ref09_Few.eq_1 _) ?_)
  refine wr_seq ?_
  refine wr_region ?_
  refine wo_box (v := (.agg (rAirspace a))) (j := 0) hI rfl rfl rfl rfl rfl rfl rfl fun g => ?_
  refine wo_val (.bool false) rfl pv_assign ?_
  refine wo_nil ?_
  refine wr_hp [(some (.rows g 8 [(rAirspace a)]))] rfl ?_
  refine wr_seq ?_
  refine wr_region ?_
  refine wo_val (.ptr (ix ids 0) g 0 0) rfl (pv_fa (fa_ptr (c := 0) (off := 0) (i := 0) ti31 rfl ti22 rfl)) ?_
  refine wo_val (.sl 2 (List.map rVolume a.Volumes)) rfl (pv_load (ld_ptr hI rfl rfl rfl ti22 rfl)) ?_
  refine wo_val (.int .i64 (a.Volumes.length : Int)) rfl (pv_len (len_sl ti22)) ?_
  refine wo_val (.ptr (ix ids 0) g 0 1) rfl (pv_fa (fa_ptr (c := 0) (off := 1) (i := 1) ti31 rfl ti23 rfl)) ?_
  refine wo_val (.sl 5 (List.map rSector a.Sectors)) rfl (pv_load (ld_ptr hI rfl rfl rfl ti23 rfl)) ?_
  refine wo_val (.int .i64 (a.Sectors.length : Int)) rfl (pv_len (len_sl ti23)) ?_
  refine wo_val (.int .i64 (IntKind.wrap .i64 ((a.Volumes.length : Int) + (a.Sectors.length : Int)))) rfl (pv_bin rfl rfl rfl) ?_
  refine wo_val (.ptr (ix ids 0) g 0 2) rfl (pv_fa (fa_ptr (c := 0) (off := 2) (i := 2) ti31 rfl ti24 rfl)) ?_
  refine wo_val (.sl 3 (List.map rConfig a.Configs)) rfl (pv_load (ld_ptr hI rfl rfl rfl ti24 rfl)) ?_
  refine wo_val (.int .i64 (a.Configs.length : Int)) rfl (pv_len (len_sl ti24)) ?_
  refine wo_val (.int .i64 (IntKind.wrap .i64 ((IntKind.wrap .i64 ((a.Volumes.length : Int) + (a.Sectors.length : Int))) + (a.Configs.length : Int)))) rfl (pv_bin rfl rfl rfl) ?_
  refine wo_val (.ptr (ix ids 0) g 0 3) rfl (pv_fa (fa_ptr (c := 0) (off := 3) (i := 3) ti31 rfl ti25 rfl)) ?_
  refine wo_val (.sl 5 (List.map rSegment a.Segments)) rfl (pv_load (ld_ptr hI rfl rfl rfl ti25 rfl)) ?_
  refine wo_val (.int .i64 (a.Segments.length : Int)) rfl (pv_len (len_sl ti25)) ?_
  refine wo_val (.int .i64 (IntKind.wrap .i64 ((IntKind.wrap .i64 ((IntKind.wrap .i64 ((a.Volumes.length : Int) + (a.Sectors.length : Int))) + (a.Configs.length : Int))) + (a.Segments.length : Int)))) rfl (pv_bin rfl rfl rfl) ?_
  refine wo_val (.ptr (ix ids 0) g 0 4) rfl (pv_fa (fa_ptr (c := 0) (off := 4) (i := 4) ti31 rfl ti26 rfl)) ?_
  refine wo_val (.sl 7 (List.map rRoute a.Routes)) rfl (pv_load (ld_ptr hI rfl rfl rfl ti26 rfl)) ?_
  refine wo_val (.int .i64 (a.Routes.length : Int)) rfl (pv_len (len_sl ti26)) ?_
  refine wo_val (.int .i64 (IntKind.wrap .i64 ((IntKind.wrap .i64 ((IntKind.wrap .i64 ((IntKind.wrap .i64 ((a.Volumes.length : Int) + (a.Sectors.length : Int))) + (a.Configs.length : Int))) + (a.Segments.length : Int))) + (a.Routes.length : Int)))) rfl (pv_bin rfl rfl rfl) ?_
  refine wo_val (.ptr (ix ids 0) g 0 5) rfl (pv_fa (fa_ptr (c := 0) (off := 5) (i := 5) ti31 rfl ti27 rfl)) ?_
  refine wo_val (.sl 2 (List.map rAirport a.Airports)) rfl (pv_load (ld_ptr hI rfl rfl rfl ti27 rfl)) ?_
  refine wo_val (.int .i64 (a.Airports.length : Int)) rfl (pv_len (len_sl ti27)) ?_
  refine wo_val (.int .i64 (IntKind.wrap .i64 ((IntKind.wrap .i64 ((IntKind.wrap .i64 ((IntKind.wrap .i64 ((IntKind.wrap .i64 ((a.Volumes.length : Int) + (a.Sectors.length : Int))) + (a.Configs.length : Int))) + (a.Segments.length : Int))) + (a.Routes.length : Int))) + (a.Airports.length : Int)))) rfl (pv_bin rfl rfl rfl) ?_
  refine wo_val (.ptr (ix ids 0) g 0 6) rfl (pv_fa (fa_ptr (c := 0) (off := 6) (i := 6) ti31 rfl ti28 rfl)) ?_
  refine wo_val (.sl 4 (List.map rClass a.Classes)) rfl (pv_load (ld_ptr hI rfl rfl rfl ti28 rfl)) ?_
  refine wo_val (.int .i64 (a.Classes.length : Int)) rfl (pv_len (len_sl ti28)) ?_
  refine wo_val (.int .i64 (IntKind.wrap .i64 ((IntKind.wrap .i64 ((IntKind.wrap .i64 ((IntKind.wrap .i64 ((IntKind.wrap .i64 ((IntKind.wrap .i64 ((a.Volumes.length : Int) + (a.Sectors.length : Int))) + (a.Configs.length : Int))) + (a.Segments.length : Int))) + (a.Routes.length : Int))) + (a.Airports.length : Int))) + (a.Classes.length : Int)))) rfl (pv_bin rfl rfl rfl) ?_
  refine wo_val (.ptr (ix ids 0) g 0 7) rfl (pv_fa (fa_ptr (c := 0) (off := 7) (i := 7) ti31 rfl ti29 rfl)) ?_
  refine wo_val (.sl 8 (List.map rRule a.Rules)) rfl (pv_load (ld_ptr hI rfl rfl rfl ti29 rfl)) ?_
  refine wo_val (.int .i64 (a.Rules.length : Int)) rfl (pv_len (len_sl ti29)) ?_
  refine wo_val (.int .i64 (IntKind.wrap .i64 ((IntKind.wrap .i64 ((IntKind.wrap .i64 ((IntKind.wrap .i64 ((IntKind.wrap .i64 ((IntKind.wrap .i64 ((IntKind.wrap .i64 ((a.Volumes.length : Int) + (a.Sectors.length : Int))) + (a.Configs.length : Int))) + (a.Segments.length : Int))) + (a.Routes.length : Int))) + (a.Airports.length : Int))) + (a.Classes.length : Int))) + (a.Rules.length : Int)))) rfl (pv_bin rfl rfl rfl) ?_
  refine wo_val (.int .i64 (IntKind.wrap .i64 ((IntKind.wrap .i64 ((IntKind.wrap .i64 ((IntKind.wrap .i64 ((IntKind.wrap .i64 ((IntKind.wrap .i64 ((IntKind.wrap .i64 ((a.Volumes.length : Int) + (a.Sectors.length : Int))) + (a.Configs.length : Int))) + (a.Segments.length : Int))) + (a.Routes.length : Int))) + (a.Airports.length : Int))) + (a.Classes.length : Int))) + (a.Rules.length : Int)))) rfl pv_assign ?_
  refine wo_nil ?_
  refine wr_seq ?_
  refine wr_seq ?_
  refine wr_region ?_
  refine wo_val (.int .i64 (IntKind.wrap .i64 ((IntKind.wrap .i64 ((IntKind.wrap .i64 ((IntKind.wrap .i64 ((IntKind.wrap .i64 ((IntKind.wrap .i64 ((IntKind.wrap .i64 ((a.Volumes.length : Int) + (a.Sectors.length : Int))) + (a.Configs.length : Int))) + (a.Segments.length : Int))) + (a.Routes.length : Int))) + (a.Airports.length : Int))) + (a.Classes.length : Int))) + (a.Rules.length : Int)))) rfl pv_move ?_
  refine wo_val (.bool (decide ((IntKind.wrap .i64 ((IntKind.wrap .i64 ((IntKind.wrap .i64 ((IntKind.wrap .i64 ((IntKind.wrap .i64 ((IntKind.wrap .i64 ((IntKind.wrap .i64 ((a.Volumes.length : Int) + (a.Sectors.length : Int))) + (a.Configs.length : Int))) + (a.Segments.length : Int))) + (a.Routes.length : Int))) + (a.Airports.length : Int))) + (a.Classes.length : Int))) + (a.Rules.length : Int))) > 80))) rfl (pv_bin rfl rfl rfl) ?_
  refine wo_nil ?_
  refine wf_ite rfl (fun hc => ?_) (fun hc => ?_)
  · refine wr_seq ?_
    refine wr_region ?_
    refine wo_val (.bool false) rfl pv_assign ?_
    refine wo_nil ?_
    exact wr_ret (a := false) (vs := [(.bool false)]) Try.func11 hI rfl (.same _)
  · refine wr_skip ?_
    refine wr_seq ?_
    refine wr_seq ?_
    refine wr_region ?_
    refine wo_val (.int .i64 0) rfl pv_assign ?_
    refine wo_nil ?_
    refine wr_block ?_
    refine wr_lim (t := 12) (L := a.Sectors) rfl fun hlim => ?_
    refine wr_is [(1, (.ptr (ix ids 0) g 0 0)), (3, (.int .i64 (IntKind.wrap .i64 ((IntKind.wrap .i64 ((IntKind.wrap .i64 ((IntKind.wrap .i64 ((IntKind.wrap .i64 ((IntKind.wrap .i64 ((IntKind.wrap .i64 ((a.Volumes.length : Int) + (a.Sectors.length : Int))) + (a.Configs.length : Int))) + (a.Segments.length : Int))) + (a.Routes.length : Int))) + (a.Airports.length : Int))) + (a.Classes.length : Int))) + (a.Rules.length : Int))))), (4, (.int .i64 0))] (.cons rfl (.cons rfl (.cons rfl .nil))) ?_
    refine wf_eachS' (P := Try.prog) a.Sectors (fun _ a1 => fun n => ref09_Few_b1 a1 n) (((fun n => (eachS (fun _ a2 => fun n1 => ref09_Few_b2 a2 n1) 0 a.Configs n).bind ((fun n1 => (eachS (fun _ a3 => fun n2 => ref09_Few_b3 a3 n2) 0 a.Routes n1).bind ((fun n2 => (eachS (fun _ a4 => fun n3 => ref09_Few_b4 a4 n3) 0 a.Airports n2).bind ((fun n3 => .ok (decide (n3 ≤ 300)))))))))) : Int → R Bool)
      (fun j => fun n => fun (fr : Nat → AV) (h : AHeap) => fr = frA [(1, (.ptr (ix ids 0) g 0 0)), (3, (.int .i64 n)), (4, (.int .i64 (j : Int)))] ∧ h = hp h0 ids [(some (.rows g 8 [(rAirspace a)]))]) (IntKind.wrap .i64 ((IntKind.wrap .i64 ((IntKind.wrap .i64 ((IntKind.wrap .i64 ((IntKind.wrap .i64 ((IntKind.wrap .i64 ((IntKind.wrap .i64 ((a.Volumes.length : Int) + (a.Sectors.length : Int))) + (a.Configs.length : Int))) + (a.Segments.length : Int))) + (a.Routes.length : Int))) + (a.Airports.length : Int))) + (a.Classes.length : Int))) + (a.Rules.length : Int))) ?_ ?_ ?_
    · exact ⟨rfl, rfl⟩
    · rintro j a1 ha1 W hW n fr h ⟨rfl, rfl⟩
      refine wr_mod (m' := ref09_Few_b1 a1 n) rfl (wr_mod (ref09_Few_b1.eq_1 _ _) ?_)
      refine wr_seq ?_
      refine wr_seq ?_
      refine wr_region ?_
      refine wo_val (.int .i64 (j : Int)) rfl pv_move ?_
      refine wo_val (.ptr (ix ids 0) g 0 1) rfl (pv_fa (fa_ptr (c := 0) (off := 1) (i := 1) ti31 rfl ti23 rfl)) ?_
      refine wo_val (.sl 5 (List.map rSector a.Sectors)) rfl (pv_load (ld_ptr hI rfl rfl rfl ti23 rfl)) ?_
      refine wo_val (.int .i64 (a.Sectors.length : Int)) rfl (pv_len (len_sl ti23)) ?_
      refine wo_val (.bool (decide ((j : Int) < (a.Sectors.length : Int)))) rfl (pv_bin rfl rfl rfl) ?_
      refine wo_nil ?_
      refine wr_condT rfl (Int.ofNat_lt.2 (lt_of_get ha1)) ?_
      refine wr_skip ?_
      refine wr_seq ?_
      refine wr_block ?_
      refine wr_region ?_
      refine wo_val (.int .i64 n) rfl pv_move ?_
      refine wo_val (.ptr (ix ids 0) g 0 1) rfl (pv_fa (fa_ptr (c := 0) (off := 1) (i := 1) ti31 rfl ti23 rfl)) ?_
      refine wo_val (.sl 5 (List.map rSector a.Sectors)) rfl (pv_load (ld_ptr hI rfl rfl rfl ti23 rfl)) ?_
      refine wo_val (.int .i64 (j : Int)) rfl pv_move ?_
      refine wo_val (.cp (rSector a1) 0) rfl (pv_ixa (ixa_nat ti23 ti53 rfl ha1)) ?_
      refine wo_val (.cp (rSector a1) 1) rfl (pv_fa (fa_cp (c := 0) (off := 1) (i := 1) ti53 rfl ti38 rfl)) ?_
      refine wo_val (.sl 1 (List.map rS a1.Names)) rfl (pv_load (ld_cp ti38 rfl)) ?_
      refine wo_val (.int .i64 (a1.Names.length : Int)) rfl (pv_len (len_sl ti38)) ?_
      refine wo_val (.int .i64 (IntKind.wrap .i64 (n + (a1.Names.length : Int)))) rfl (pv_bin rfl rfl rfl) ?_
      refine wo_val (.int .i64 (IntKind.wrap .i64 (n + (a1.Names.length : Int)))) rfl pv_assign ?_
      refine wo_nil ?_
      refine wr_inBlock ?_
      refine wr_region ?_
      refine wo_val (.int .i64 (j : Int)) rfl pv_move ?_
      refine wo_val (.int .i64 (IntKind.wrap .i64 ((j : Int) + 1))) rfl (pv_bin rfl rfl rfl) ?_
      refine wo_val (.int .i64 (IntKind.wrap .i64 ((j : Int) + 1))) rfl pv_assign ?_
      refine wo_nil ?_
      refine wr_is [(1, (.ptr (ix ids 0) g 0 0)), (3, (.int .i64 (IntKind.wrap .i64 (n + (a1.Names.length : Int))))), (4, (.int .i64 ((j + 1 : Nat) : Int)))] (.cons rfl (.cons rfl (.cons (inc_ok (lt_of_get ha1) hlim) .nil))) ?_
      refine wb_S ?_
      refine hW (IntKind.wrap .i64 (n + (a1.Names.length : Int))) _ _ ?_
      exact ⟨rfl, rfl⟩
    · rintro n fr h ⟨rfl, rfl⟩
      refine wr_seq ?_
      refine wr_seq ?_
      refine wr_region ?_
      refine wo_val (.int .i64 (a.Sectors.length : Int)) rfl pv_move ?_
      refine wo_val (.ptr (ix ids 0) g 0 1) rfl (pv_fa (fa_ptr (c := 0) (off := 1) (i := 1) ti31 rfl ti23 rfl)) ?_
      refine wo_val (.sl 5 (List.map rSector a.Sectors)) rfl (pv_load (ld_ptr hI rfl rfl rfl ti23 rfl)) ?_
      refine wo_val (.int .i64 (a.Sectors.length : Int)) rfl (pv_len (len_sl ti23)) ?_
      refine wo_val (.bool (decide ((a.Sectors.length : Int) < (a.Sectors.length : Int)))) rfl (pv_bin rfl rfl rfl) ?_
      refine wo_nil ?_
      refine wr_condF rfl (Int.lt_irrefl _) ?_
      refine wr_exit rfl ?_
      refine wr_seq ?_
      refine wr_seq ?_
      refine wr_region ?_
      refine wo_val (.int .i64 0) rfl pv_assign ?_
      refine wo_nil ?_
      refine wr_block ?_
      refine wr_is [(1, (.ptr (ix ids 0) g 0 0)), (3, (.int .i64 n)), (5, (.int .i64 0))] (.cons rfl (.cons rfl (.cons rfl .nil))) ?_
      refine wf_eachS' (P := Try.prog) a.Configs (fun _ a2 => fun n1 => ref09_Few_b2 a2 n1) (((fun n1 => (eachS (fun _ a3 => fun n2 => ref09_Few_b3 a3 n2) 0 a.Routes n1).bind ((fun n2 => (eachS (fun _ a4 => fun n3 => ref09_Few_b4 a4 n3) 0 a.Airports n2).bind ((fun n3 => .ok (decide (n3 ≤ 300)))))))) : Int → R Bool)
        (fun j1 => fun n1 => fun (fr : Nat → AV) (h : AHeap) => fr = frA [(1, (.ptr (ix ids 0) g 0 0)), (3, (.int .i64 n1)), (5, (.int .i64 (j1 : Int)))] ∧ h = hp h0 ids [(some (.rows g 8 [(rAirspace a)]))]) n ?_ ?_ ?_
      · exact ⟨rfl, rfl⟩
      · rintro j1 a2 ha2 W hW1 n1 fr h ⟨rfl, rfl⟩
        refine wr_mod (m' := ref09_Few_b2 a2 n1) rfl (wr_mod (ref09_Few_b2.eq_1 _ _) ?_)
        refine wr_seq ?_
        refine wr_seq ?_
        refine wr_region ?_
        refine wo_val (.int .i64 (j1 : Int)) rfl pv_move ?_
        refine wo_val (.ptr (ix ids 0) g 0 2) rfl (pv_fa (fa_ptr (c := 0) (off := 2) (i := 2) ti31 rfl ti24 rfl)) ?_
        refine wo_val (.sl 3 (List.map rConfig a.Configs)) rfl (pv_load (ld_ptr hI rfl rfl rfl ti24 rfl)) ?_
        refine wo_val (.int .i64 (a.Configs.length : Int)) rfl (pv_len (len_sl ti24)) ?_
        refine wo_val (.bool (decide ((j1 : Int) < (a.Configs.length : Int)))) rfl (pv_bin rfl rfl rfl) ?_
        refine wo_nil ?_
        refine wr_lim (t := 59) (L := a.Configs) rfl fun hlim2 => ?_
        refine wr_condT rfl (Int.ofNat_lt.2 (lt_of_get ha2)) ?_
        refine wr_skip ?_
        refine wr_seq ?_
        refine wr_block ?_
        refine wr_region ?_
        refine wo_val (.int .i64 n1) rfl pv_move ?_
        refine wo_val (.ptr (ix ids 0) g 0 2) rfl (pv_fa (fa_ptr (c := 0) (off := 2) (i := 2) ti31 rfl ti24 rfl)) ?_
        refine wo_val (.sl 3 (List.map rConfig a.Configs)) rfl (pv_load (ld_ptr hI rfl rfl rfl ti24 rfl)) ?_
        refine wo_val (.int .i64 (j1 : Int)) rfl pv_move ?_
        refine wo_val (.cp (rConfig a2) 0) rfl (pv_ixa (ixa_nat ti24 ti55 rfl ha2)) ?_
        refine wo_val (.cp (rConfig a2) 1) rfl (pv_fa (fa_cp (c := 0) (off := 1) (i := 1) ti55 rfl ti38 rfl)) ?_
        refine wo_val (.sl 1 (List.map rS a2.Names)) rfl (pv_load (ld_cp ti38 rfl)) ?_
        refine wo_val (.int .i64 (a2.Names.length : Int)) rfl (pv_len (len_sl ti38)) ?_
        refine wo_val (.int .i64 (IntKind.wrap .i64 (n1 + (a2.Names.length : Int)))) rfl (pv_bin rfl rfl rfl) ?_
        refine wo_val (.int .i64 (IntKind.wrap .i64 (n1 + (a2.Names.length : Int)))) rfl pv_assign ?_
        refine wo_nil ?_
        refine wr_inBlock ?_
        refine wr_region ?_
        refine wo_val (.int .i64 (j1 : Int)) rfl pv_move ?_
        refine wo_val (.int .i64 (IntKind.wrap .i64 ((j1 : Int) + 1))) rfl (pv_bin rfl rfl rfl) ?_
        refine wo_val (.int .i64 (IntKind.wrap .i64 ((j1 : Int) + 1))) rfl pv_assign ?_
        refine wo_nil ?_
        refine wr_is [(1, (.ptr (ix ids 0) g 0 0)), (3, (.int .i64 (IntKind.wrap .i64 (n1 + (a2.Names.length : Int))))), (5, (.int .i64 ((j1 + 1 : Nat) : Int)))] (.cons rfl (.cons rfl (.cons (inc_ok (lt_of_get ha2) hlim2) .nil))) ?_
        refine wb_S ?_
        refine hW1 (IntKind.wrap .i64 (n1 + (a2.Names.length : Int))) _ _ ?_
        exact ⟨rfl, rfl⟩
      · rintro n1 fr h ⟨rfl, rfl⟩
        refine wr_seq ?_
        refine wr_seq ?_
        refine wr_region ?_
        refine wo_val (.int .i64 (a.Configs.length : Int)) rfl pv_move ?_
        refine wo_val (.ptr (ix ids 0) g 0 2) rfl (pv_fa (fa_ptr (c := 0) (off := 2) (i := 2) ti31 rfl ti24 rfl)) ?_
        refine wo_val (.sl 3 (List.map rConfig a.Configs)) rfl (pv_load (ld_ptr hI rfl rfl rfl ti24 rfl)) ?_
        refine wo_val (.int .i64 (a.Configs.length : Int)) rfl (pv_len (len_sl ti24)) ?_
        refine wo_val (.bool (decide ((a.Configs.length : Int) < (a.Configs.length : Int)))) rfl (pv_bin rfl rfl rfl) ?_
        refine wo_nil ?_
        refine wr_condF rfl (Int.lt_irrefl _) ?_
        refine wr_exit rfl ?_
        refine wr_seq ?_
        refine wr_seq ?_
        refine wr_region ?_
        refine wo_val (.int .i64 0) rfl pv_assign ?_
        refine wo_nil ?_
        refine wr_block ?_
        refine wr_is [(1, (.ptr (ix ids 0) g 0 0)), (3, (.int .i64 n1)), (6, (.int .i64 0))] (.cons rfl (.cons rfl (.cons rfl .nil))) ?_
        refine wf_eachS' (P := Try.prog) a.Routes (fun _ a3 => fun n2 => ref09_Few_b3 a3 n2) (((fun n2 => (eachS (fun _ a4 => fun n3 => ref09_Few_b4 a4 n3) 0 a.Airports n2).bind ((fun n3 => .ok (decide (n3 ≤ 300)))))) : Int → R Bool)
          (fun j2 => fun n2 => fun (fr : Nat → AV) (h : AHeap) => fr = frA [(1, (.ptr (ix ids 0) g 0 0)), (3, (.int .i64 n2)), (6, (.int .i64 (j2 : Int)))] ∧ h = hp h0 ids [(some (.rows g 8 [(rAirspace a)]))]) n1 ?_ ?_ ?_
        · exact ⟨rfl, rfl⟩
        · rintro j2 a3 ha3 W hW2 n2 fr h ⟨rfl, rfl⟩
          refine wr_mod (m' := ref09_Few_b3 a3 n2) rfl (wr_mod (ref09_Few_b3.eq_1 _ _) ?_)
          refine wr_seq ?_
          refine wr_seq ?_
          refine wr_region ?_
          refine wo_val (.int .i64 (j2 : Int)) rfl pv_move ?_
          refine wo_val (.ptr (ix ids 0) g 0 4) rfl (pv_fa (fa_ptr (c := 0) (off := 4) (i := 4) ti31 rfl ti26 rfl)) ?_
          refine wo_val (.sl 7 (List.map rRoute a.Routes)) rfl (pv_load (ld_ptr hI rfl rfl rfl ti26 rfl)) ?_
          refine wo_val (.int .i64 (a.Routes.length : Int)) rfl (pv_len (len_sl ti26)) ?_
          refine wo_val (.bool (decide ((j2 : Int) < (a.Routes.length : Int)))) rfl (pv_bin rfl rfl rfl) ?_
          refine wo_nil ?_
          refine wr_lim (t := 75) (L := a.Routes) rfl fun hlim4 => ?_
          refine wr_condT rfl (Int.ofNat_lt.2 (lt_of_get ha3)) ?_
          refine wr_skip ?_
          refine wr_seq ?_
          refine wr_block ?_
          refine wr_region ?_
          refine wo_val (.int .i64 n2) rfl pv_move ?_
          refine wo_val (.ptr (ix ids 0) g 0 4) rfl (pv_fa (fa_ptr (c := 0) (off := 4) (i := 4) ti31 rfl ti26 rfl)) ?_
          refine wo_val (.sl 7 (List.map rRoute a.Routes)) rfl (pv_load (ld_ptr hI rfl rfl rfl ti26 rfl)) ?_
          refine wo_val (.int .i64 (j2 : Int)) rfl pv_move ?_
          refine wo_val (.cp (rRoute a3) 0) rfl (pv_ixa (ixa_nat ti26 ti59 rfl ha3)) ?_
          refine wo_val (.cp (rRoute a3) 5) rfl (pv_fa (fa_cp (c := 0) (off := 5) (i := 5) ti59 rfl ti38 rfl)) ?_
          refine wo_val (.sl 1 (List.map rS a3.Names)) rfl (pv_load (ld_cp ti38 rfl)) ?_
          refine wo_val (.int .i64 (a3.Names.length : Int)) rfl (pv_len (len_sl ti38)) ?_
          refine wo_val (.int .i64 (IntKind.wrap .i64 (n2 + (a3.Names.length : Int)))) rfl (pv_bin rfl rfl rfl) ?_
          refine wo_val (.int .i64 (IntKind.wrap .i64 (n2 + (a3.Names.length : Int)))) rfl pv_assign ?_
          refine wo_nil ?_
          refine wr_inBlock ?_
          refine wr_region ?_
          refine wo_val (.int .i64 (j2 : Int)) rfl pv_move ?_
          refine wo_val (.int .i64 (IntKind.wrap .i64 ((j2 : Int) + 1))) rfl (pv_bin rfl rfl rfl) ?_
          refine wo_val (.int .i64 (IntKind.wrap .i64 ((j2 : Int) + 1))) rfl pv_assign ?_
          refine wo_nil ?_
          refine wr_is [(1, (.ptr (ix ids 0) g 0 0)), (3, (.int .i64 (IntKind.wrap .i64 (n2 + (a3.Names.length : Int))))), (6, (.int .i64 ((j2 + 1 : Nat) : Int)))] (.cons rfl (.cons rfl (.cons (inc_ok (lt_of_get ha3) hlim4) .nil))) ?_
          refine wb_S ?_
          refine hW2 (IntKind.wrap .i64 (n2 + (a3.Names.length : Int))) _ _ ?_
          exact ⟨rfl, rfl⟩
        · rintro n2 fr h ⟨rfl, rfl⟩
          refine wr_seq ?_
          refine wr_seq ?_
          refine wr_region ?_
          refine wo_val (.int .i64 (a.Routes.length : Int)) rfl pv_move ?_
          refine wo_val (.ptr (ix ids 0) g 0 4) rfl (pv_fa (fa_ptr (c := 0) (off := 4) (i := 4) ti31 rfl ti26 rfl)) ?_
          refine wo_val (.sl 7 (List.map rRoute a.Routes)) rfl (pv_load (ld_ptr hI rfl rfl rfl ti26 rfl)) ?_
          refine wo_val (.int .i64 (a.Routes.length : Int)) rfl (pv_len (len_sl ti26)) ?_
          refine wo_val (.bool (decide ((a.Routes.length : Int) < (a.Routes.length : Int)))) rfl (pv_bin rfl rfl rfl) ?_
          refine wo_nil ?_
          refine wr_condF rfl (Int.lt_irrefl _) ?_
          refine wr_exit rfl ?_
          refine wr_seq ?_
          refine wr_seq ?_
          refine wr_region ?_
          refine wo_val (.int .i64 0) rfl pv_assign ?_
          refine wo_nil ?_
          refine wr_block ?_
          refine wr_is [(1, (.ptr (ix ids 0) g 0 0)), (3, (.int .i64 n2)), (7, (.int .i64 0))] (.cons rfl (.cons rfl (.cons rfl .nil))) ?_
          refine wf_eachS' (P := Try.prog) a.Airports (fun _ a4 => fun n3 => ref09_Few_b4 a4 n3) (((fun n3 => .ok (decide (n3 ≤ 300)))) : Int → R Bool)
            (fun j3 => fun n3 => fun (fr : Nat → AV) (h : AHeap) => fr = frA [(1, (.ptr (ix ids 0) g 0 0)), (3, (.int .i64 n3)), (7, (.int .i64 (j3 : Int)))] ∧ h = hp h0 ids [(some (.rows g 8 [(rAirspace a)]))]) n2 ?_ ?_ ?_
          · exact ⟨rfl, rfl⟩
          · rintro j3 a4 ha4 W hW3 n3 fr h ⟨rfl, rfl⟩
            refine wr_mod (m' := ref09_Few_b4 a4 n3) rfl (wr_mod (ref09_Few_b4.eq_1 _ _) ?_)
            refine wr_seq ?_
            refine wr_seq ?_
            refine wr_region ?_
            refine wo_val (.int .i64 (j3 : Int)) rfl pv_move ?_
            refine wo_val (.ptr (ix ids 0) g 0 5) rfl (pv_fa (fa_ptr (c := 0) (off := 5) (i := 5) ti31 rfl ti27 rfl)) ?_
            refine wo_val (.sl 2 (List.map rAirport a.Airports)) rfl (pv_load (ld_ptr hI rfl rfl rfl ti27 rfl)) ?_
            refine wo_val (.int .i64 (a.Airports.length : Int)) rfl (pv_len (len_sl ti27)) ?_
            refine wo_val (.bool (decide ((j3 : Int) < (a.Airports.length : Int)))) rfl (pv_bin rfl rfl rfl) ?_
            refine wo_nil ?_
            refine wr_lim (t := 91) (L := a.Airports) rfl fun hlim6 => ?_
            refine wr_condT rfl (Int.ofNat_lt.2 (lt_of_get ha4)) ?_
            refine wr_skip ?_
            refine wr_seq ?_
            refine wr_block ?_
            refine wr_region ?_
            refine wo_val (.int .i64 n3) rfl pv_move ?_
            refine wo_val (.ptr (ix ids 0) g 0 5) rfl (pv_fa (fa_ptr (c := 0) (off := 5) (i := 5) ti31 rfl ti27 rfl)) ?_
            refine wo_val (.sl 2 (List.map rAirport a.Airports)) rfl (pv_load (ld_ptr hI rfl rfl rfl ti27 rfl)) ?_
            refine wo_val (.int .i64 (j3 : Int)) rfl pv_move ?_
            refine wo_val (.cp (rAirport a4) 0) rfl (pv_ixa (ixa_nat ti27 ti46 rfl ha4)) ?_
            refine wo_val (.cp (rAirport a4) 1) rfl (pv_fa (fa_cp (c := 0) (off := 1) (i := 1) ti46 rfl ti44 rfl)) ?_
            refine wo_val (.sl 2 (List.map rMode a4.Modes)) rfl (pv_load (ld_cp ti44 rfl)) ?_
            refine wo_val (.int .i64 (a4.Modes.length : Int)) rfl (pv_len (len_sl ti44)) ?_
            refine wo_val (.int .i64 (IntKind.wrap .i64 (n3 + (a4.Modes.length : Int)))) rfl (pv_bin rfl rfl rfl) ?_
            refine wo_val (.int .i64 (IntKind.wrap .i64 (n3 + (a4.Modes.length : Int)))) rfl pv_assign ?_
            refine wo_nil ?_
            refine wr_inBlock ?_
            refine wr_region ?_
            refine wo_val (.int .i64 (j3 : Int)) rfl pv_move ?_
            refine wo_val (.int .i64 (IntKind.wrap .i64 ((j3 : Int) + 1))) rfl (pv_bin rfl rfl rfl) ?_
            refine wo_val (.int .i64 (IntKind.wrap .i64 ((j3 : Int) + 1))) rfl pv_assign ?_
            refine wo_nil ?_
            refine wr_is [(1, (.ptr (ix ids 0) g 0 0)), (3, (.int .i64 (IntKind.wrap .i64 (n3 + (a4.Modes.length : Int))))), (7, (.int .i64 ((j3 + 1 : Nat) : Int)))] (.cons rfl (.cons rfl (.cons (inc_ok (lt_of_get ha4) hlim6) .nil))) ?_
            refine wb_S ?_
            refine hW3 (IntKind.wrap .i64 (n3 + (a4.Modes.length : Int))) _ _ ?_
            exact ⟨rfl, rfl⟩
          · rintro n3 fr h ⟨rfl, rfl⟩
            refine wr_seq ?_
            refine wr_seq ?_
            refine wr_region ?_
            refine wo_val (.int .i64 (a.Airports.length : Int)) rfl pv_move ?_
            refine wo_val (.ptr (ix ids 0) g 0 5) rfl (pv_fa (fa_ptr (c := 0) (off := 5) (i := 5) ti31 rfl ti27 rfl)) ?_
            refine wo_val (.sl 2 (List.map rAirport a.Airports)) rfl (pv_load (ld_ptr hI rfl rfl rfl ti27 rfl)) ?_
            refine wo_val (.int .i64 (a.Airports.length : Int)) rfl (pv_len (len_sl ti27)) ?_
            refine wo_val (.bool (decide ((a.Airports.length : Int) < (a.Airports.length : Int)))) rfl (pv_bin rfl rfl rfl) ?_
            refine wo_nil ?_
            refine wr_condF rfl (Int.lt_irrefl _) ?_
            refine wr_exit rfl ?_
            refine wr_seq ?_
            refine wr_region ?_
            refine wo_val (.int .i64 n3) rfl pv_move ?_
            refine wo_val (.bool (decide (n3 ≤ 300))) rfl (pv_bin rfl rfl rfl) ?_
            refine wo_val (.bool (decide (n3 ≤ 300))) rfl pv_assign ?_
            refine wo_nil ?_
            exact wr_ret (a := (decide (n3 ≤ 300))) (vs := [(.bool (decide (n3 ≤ 300)))]) Try.func11 hI rfl (.same _)

theorem cp_law09_NamesTurned (a : Airspace) (b : Int) : CP Try.prog 9 [(.agg (rAirspace a)), (.int .u8 b)] (law09_NamesTurned a b) (fun (x : Bool) => (AV.bool x)) := by
  refine cp_intro (n := 216) 10 Try.func9 rfl (by decide) rfl rfl fun h0 ids hI => ?_
  refine wr_in (wr_mod (law09_NamesTurned.eq_1 _ _) ?_)
  refine wr_seq ?_
  refine wr_region ?_
  refine wo_box (v := (.agg (rAirspace a))) (j := 0) hI rfl rfl rfl rfl rfl rfl rfl fun g => ?_
  refine wo_val (.bool false) rfl pv_assign ?_
  refine wo_nil ?_
  refine wr_hp [(some (.rows g 8 [(rAirspace a)])), none, none, none, none, none, none, none, none, none] rfl ?_
  refine wr_seq ?_
  refine wr_seq ?_
  refine wr_region ?_
  refine of_call [] rfl rfl rfl rfl ((cp_law09_sane) _) (fun v _ => wu_pan Try.func9 hI) fun r _ => ?_
  refine wo_val (.bool (!r)) rfl (pv_un rfl) ?_
  refine wo_nil ?_
  refine wf_itebn rfl (fun hc => ?_) (fun hc => ?_)
  · refine wr_skip ?_
    refine wr_seq ?_
    refine wr_seq ?_
    refine wr_region ?_
    refine wo_val (.agg (rAirspace a)) rfl (pv_load (ld_ptr hI rfl rfl rfl ti31 rfl)) ?_
    refine of_call [(.agg (rAirspace a))] rfl rfl rfl rfl ((cp_ref09_Few a) _) (fun v _ => wu_pan Try.func9 hI) fun r1 _ => ?_
    refine wo_val (.bool (!r1)) rfl (pv_un rfl) ?_
    refine wo_nil ?_
    refine wf_itebn rfl (fun hc1 => ?_) (fun hc1 => ?_)
    · refine wr_skip ?_
      refine wr_seq ?_
      refine wr_region ?_
      refine wo_val (.agg (rAirspace a)) rfl (pv_load (ld_ptr hI rfl rfl rfl ti31 rfl)) ?_
      refine wo_alloc (j := 1) hI rfl rfl rfl rfl ti31 rfl fun g1 => ?_
      refine wo_store (st_ptr hI rfl rfl rfl rfl ti31 rfl rfl rfl rfl rfl) ?_
      refine wo_nil ?_
      refine wr_hp [(some (.rows g 8 [(rAirspace a)])), (some (.rows g1 8 [(rAirspace a)])), none, none, none, none, none, none, none, none] rfl ?_
      refine wr_seq ?_
      refine wr_seq ?_
      refine wr_region ?_
      refine wo_val (.ptr (ix ids 0) g 0 0) rfl (pv_fa (fa_ptr (c := 0) (off := 0) (i := 0) ti31 rfl ti22 rfl)) ?_
      refine wo_val (.sl 2 (List.map rVolume a.Volumes)) rfl (pv_load (ld_ptr hI rfl rfl rfl ti22 rfl)) ?_
      refine wo_val (.int .i64 (a.Volumes.length : Int)) rfl (pv_len (len_sl ti22)) ?_
      refine wo_val (.int .i64 (a.Volumes.length : Int)) rfl pv_assign ?_
      refine wo_nil ?_
      refine wr_seq ?_
      refine wr_region ?_
      refine wo_val (.int .i64 (a.Volumes.length : Int)) rfl pv_move ?_
      refine wo_val (.bool (decide ((a.Volumes.length : Int) > 0))) rfl (pv_bin rfl rfl rfl) ?_
      refine wo_nil ?_
      refine wf_join (fun vVolumes1 => law09_NamesTurned_j3 a b r vVolumes1) (fun vVolumes1 => fun (fr : Nat → AV) (h : AHeap) => fr = frA [(1, (.int .u8 b)), (2, (.ptr (ix ids 0) g 0 0)), (5, (.ptr (ix ids 1) g1 0 0))] ∧ h = hp h0 ids [(some (.rows g 8 [(rAirspace a)])), (some (.rows g1 8 [[(.sl 2 (List.map rVolume vVolumes1)), (.sl 5 (List.map rSector a.Sectors)), (.sl 3 (List.map rConfig a.Configs)), (.sl 5 (List.map rSegment a.Segments)), (.sl 7 (List.map rRoute a.Routes)), (.sl 2 (List.map rAirport a.Airports)), (.sl 4 (List.map rClass a.Classes)), (.sl 8 (List.map rRule a.Rules))]])), none, none, none, none, none, none, none, none]) ?_ fun hJ8 => ?_
      · rintro vVolumes1 fr h ⟨rfl, rfl⟩
        refine wr_mod (law09_NamesTurned_j3.eq_1 _ _ _ _) ?_
        refine wr_seq ?_
        refine wr_seq ?_
        refine wr_region ?_
        refine wo_val (.ptr (ix ids 0) g 0 5) rfl (pv_fa (fa_ptr (c := 0) (off := 5) (i := 5) ti31 rfl ti27 rfl)) ?_
        refine wo_val (.sl 2 (List.map rAirport a.Airports)) rfl (pv_load (ld_ptr hI rfl rfl rfl ti27 rfl)) ?_
        refine wo_val (.int .i64 (a.Airports.length : Int)) rfl (pv_len (len_sl ti27)) ?_
        refine wo_val (.int .i64 (a.Airports.length : Int)) rfl pv_assign ?_
        refine wo_nil ?_
        refine wr_seq ?_
        refine wr_region ?_
        refine wo_val (.int .i64 (a.Airports.length : Int)) rfl pv_move ?_
        refine wo_val (.bool (decide ((a.Airports.length : Int) > 0))) rfl (pv_bin rfl rfl rfl) ?_
        refine wo_nil ?_
        refine wf_join (fun vAirports1 => law09_NamesTurned_j2 a b r vVolumes1 vAirports1) (fun vAirports1 => fun (fr : Nat → AV) (h : AHeap) => fr = frA [(1, (.int .u8 b)), (2, (.ptr (ix ids 0) g 0 0)), (5, (.ptr (ix ids 1) g1 0 0))] ∧ h = hp h0 ids [(some (.rows g 8 [(rAirspace a)])), (some (.rows g1 8 [[(.sl 2 (List.map rVolume vVolumes1)), (.sl 5 (List.map rSector a.Sectors)), (.sl 3 (List.map rConfig a.Configs)), (.sl 5 (List.map rSegment a.Segments)), (.sl 7 (List.map rRoute a.Routes)), (.sl 2 (List.map rAirport vAirports1)), (.sl 4 (List.map rClass a.Classes)), (.sl 8 (List.map rRule a.Rules))]])), none, none, none, none, none, none, none, none]) ?_ fun hJ7 => ?_
        · rintro vAirports1 fr h ⟨rfl, rfl⟩
          refine wr_mod (law09_NamesTurned_j2.eq_1 _ _ _ _ _) ?_
          refine wr_seq ?_
          refine wr_seq ?_
          refine wr_region ?_
          refine wo_val (.ptr (ix ids 0) g 0 6) rfl (pv_fa (fa_ptr (c := 0) (off := 6) (i := 6) ti31 rfl ti28 rfl)) ?_
          refine wo_val (.sl 4 (List.map rClass a.Classes)) rfl (pv_load (ld_ptr hI rfl rfl rfl ti28 rfl)) ?_
          refine wo_val (.int .i64 (a.Classes.length : Int)) rfl (pv_len (len_sl ti28)) ?_
          refine wo_val (.int .i64 (a.Classes.length : Int)) rfl pv_assign ?_
          refine wo_nil ?_
          refine wr_seq ?_
          refine wr_region ?_
          refine wo_val (.int .i64 (a.Classes.length : Int)) rfl pv_move ?_
          refine wo_val (.bool (decide ((a.Classes.length : Int) > 0))) rfl (pv_bin rfl rfl rfl) ?_
          refine wo_nil ?_
          refine wf_join (fun vClasses1 => law09_NamesTurned_j1 a r vVolumes1 vAirports1 vClasses1) (fun vClasses1 => fun (fr : Nat → AV) (h : AHeap) => fr = frA [(2, (.ptr (ix ids 0) g 0 0)), (5, (.ptr (ix ids 1) g1 0 0))] ∧ h = hp h0 ids [(some (.rows g 8 [(rAirspace a)])), (some (.rows g1 8 [[(.sl 2 (List.map rVolume vVolumes1)), (.sl 5 (List.map rSector a.Sectors)), (.sl 3 (List.map rConfig a.Configs)), (.sl 5 (List.map rSegment a.Segments)), (.sl 7 (List.map rRoute a.Routes)), (.sl 2 (List.map rAirport vAirports1)), (.sl 4 (List.map rClass vClasses1)), (.sl 8 (List.map rRule a.Rules))]])), none, none, none, none, none, none, none, none]) ?_ fun hJ6 => ?_
          · rintro vClasses1 fr h ⟨rfl, rfl⟩
            refine wr_mod (law09_NamesTurned_j1.eq_1 _ _ _ _ _) ?_
            refine wr_seq ?_
            refine wr_region ?_
            refine wo_val (.agg (rAirspace a)) rfl (pv_load (ld_ptr hI rfl rfl rfl ti31 rfl)) ?_
            refine of_call [(.agg (rAirspace a))] rfl rfl rfl rfl ((cp_names_Resolve a) _) (fun v _ => wu_pan Try.func9 hI) fun r2 _ => ?_
            refine wo_val (.tup [(.agg (rAirspace r2.1)), (.int .i64 r2.2)]) rfl pv_move ?_
            refine wo_val (.agg (rAirspace r2.1)) rfl (pv_ext rfl) ?_
            refine wo_val (.int .i64 r2.2) rfl (pv_ext rfl) ?_
            refine wo_alloc (j := 5) hI rfl rfl rfl rfl ti31 rfl fun g8 => ?_
            refine wo_store (st_ptr hI rfl rfl rfl rfl ti31 rfl rfl rfl rfl rfl) ?_
            refine wo_val (.int .i64 r2.2) rfl pv_assign ?_
            refine wo_nil ?_
            refine wr_hp [(some (.rows g 8 [(rAirspace a)])), (some (.rows g1 8 [[(.sl 2 (List.map rVolume vVolumes1)), (.sl 5 (List.map rSector a.Sectors)), (.sl 3 (List.map rConfig a.Configs)), (.sl 5 (List.map rSegment a.Segments)), (.sl 7 (List.map rRoute a.Routes)), (.sl 2 (List.map rAirport vAirports1)), (.sl 4 (List.map rClass vClasses1)), (.sl 8 (List.map rRule a.Rules))]])), none, none, none, (some (.rows g8 8 [(rAirspace r2.1)])), none, none, none, none] rfl ?_
            refine wr_seq ?_
            refine wr_region ?_
            refine wo_val (.agg [(.sl 2 (List.map rVolume vVolumes1)), (.sl 5 (List.map rSector a.Sectors)), (.sl 3 (List.map rConfig a.Configs)), (.sl 5 (List.map rSegment a.Segments)), (.sl 7 (List.map rRoute a.Routes)), (.sl 2 (List.map rAirport vAirports1)), (.sl 4 (List.map rClass vClasses1)), (.sl 8 (List.map rRule a.Rules))]) rfl (pv_load (ld_ptr hI rfl rfl rfl ti31 rfl)) ?_
            refine of_call [(.agg [(.sl 2 (List.map rVolume vVolumes1)), (.sl 5 (List.map rSector a.Sectors)), (.sl 3 (List.map rConfig a.Configs)), (.sl 5 (List.map rSegment a.Segments)), (.sl 7 (List.map rRoute a.Routes)), (.sl 2 (List.map rAirport vAirports1)), (.sl 4 (List.map rClass vClasses1)), (.sl 8 (List.map rRule a.Rules))])] rfl rfl rfl rfl (fun hb => ACalls.weak (.cons (.aggL (.cons (.same _) (.cons (.same _) (.cons (.same _) (.cons (.same _) (.cons (.same _) (.cons (.same _) (.cons (.same _) (.cons (.same _) .nil))))))))) .nil) ((cp_names_Resolve ({ Volumes := vVolumes1, Sectors := a.Sectors, Configs := a.Configs, Segments := a.Segments, Routes := a.Routes, Airports := vAirports1, Classes := vClasses1, Rules := a.Rules } : Airspace)) _ hb)) (fun v _ => wu_pan Try.func9 hI) fun r3 _ => ?_
            refine wo_val (.tup [(.agg (rAirspace r3.1)), (.int .i64 r3.2)]) rfl pv_move ?_
            refine wo_val (.agg (rAirspace r3.1)) rfl (pv_ext rfl) ?_
            refine wo_val (.int .i64 r3.2) rfl (pv_ext rfl) ?_
            refine wo_alloc (j := 6) hI rfl rfl rfl rfl ti31 rfl fun g9 => ?_
            refine wo_store (st_ptr hI rfl rfl rfl rfl ti31 rfl rfl rfl rfl rfl) ?_
            refine wo_val (.int .i64 r3.2) rfl pv_assign ?_
            refine wo_nil ?_
            refine wr_hp [(some (.rows g 8 [(rAirspace a)])), (some (.rows g1 8 [[(.sl 2 (List.map rVolume vVolumes1)), (.sl 5 (List.map rSector a.Sectors)), (.sl 3 (List.map rConfig a.Configs)), (.sl 5 (List.map rSegment a.Segments)), (.sl 7 (List.map rRoute a.Routes)), (.sl 2 (List.map rAirport vAirports1)), (.sl 4 (List.map rClass vClasses1)), (.sl 8 (List.map rRule a.Rules))]])), none, none, none, (some (.rows g8 8 [(rAirspace r2.1)])), (some (.rows g9 8 [(rAirspace r3.1)])), none, none, none] rfl ?_
            refine wr_seq ?_
            refine wr_seq ?_
            refine wr_region ?_
            refine wo_val (.int .i64 r2.2) rfl pv_move ?_
            refine wo_val (.int .i64 r3.2) rfl pv_move ?_
            refine wo_val (.bool (r2.2 != r3.2)) rfl (pv_bin rfl rfl rfl) ?_
            refine wo_nil ?_
            refine wf_iteb rfl (fun hc5 => ?_) (fun hc5 => ?_)
            · refine wr_seq ?_
              refine wr_region ?_
              refine wo_val (.bool false) rfl pv_assign ?_
              refine wo_nil ?_
              exact wr_ret (a := false) (vs := [(.bool false)]) Try.func9 hI rfl (.same _)
            · refine wr_skip ?_
              refine wr_seq ?_
              refine wr_seq ?_
              refine wr_region ?_
              refine wo_val (.int .i64 r2.2) rfl pv_move ?_
              refine wo_val (.bool (r2.2 != 0)) rfl (pv_bin rfl rfl rfl) ?_
              refine wo_nil ?_
              refine wf_iteb rfl (fun hc6 => ?_) (fun hc6 => ?_)
              · refine wr_seq ?_
                refine wr_region ?_
                refine wo_val (.bool true) rfl pv_assign ?_
                refine wo_nil ?_
                exact wr_ret (a := true) (vs := [(.bool true)]) Try.func9 hI rfl (.same _)
              · refine wr_skip ?_
                refine wr_seq ?_
                refine wr_seq ?_
                refine wr_region ?_
                refine wo_val (.ptr (ix ids 5) g8 0 3) rfl (pv_fa (fa_ptr (c := 0) (off := 3) (i := 3) ti31 rfl ti25 rfl)) ?_
                refine wo_val (.sl 5 (List.map rSegment r2.1.Segments)) rfl (pv_load (ld_ptr hI rfl rfl rfl ti25 rfl)) ?_
                refine wo_val (.int .i64 (r2.1.Segments.length : Int)) rfl (pv_len (len_sl ti25)) ?_
                refine wo_val (.ptr (ix ids 6) g9 0 3) rfl (pv_fa (fa_ptr (c := 0) (off := 3) (i := 3) ti31 rfl ti25 rfl)) ?_
                refine wo_val (.sl 5 (List.map rSegment r3.1.Segments)) rfl (pv_load (ld_ptr hI rfl rfl rfl ti25 rfl)) ?_
                refine wo_val (.int .i64 (r3.1.Segments.length : Int)) rfl (pv_len (len_sl ti25)) ?_
                refine wo_val (.bool ((r2.1.Segments.length : Int) != (r3.1.Segments.length : Int))) rfl (pv_bin rfl rfl rfl) ?_
                refine wo_val (.bool ((r2.1.Segments.length : Int) != (r3.1.Segments.length : Int))) rfl pv_move ?_
                refine wo_meet 8 [(5, (.ptr (ix ids 1) g1 0 0)), (14, (.ptr (ix ids 6) g9 0 0)), (129, (.bool (((r2.1.Segments.length : Int) != (r3.1.Segments.length : Int)) || ((r2.1.Rules.length : Int) != (r3.1.Rules.length : Int)))))] ?_ fun hJ => wo_cases ((r2.1.Segments.length : Int) != (r3.1.Segments.length : Int)) (fun hb1 => ?_) (fun hb1 => ?_)
                · refine wo_nil ?_
                  refine wf_iteb rfl (fun hc7 => ?_) (fun hc7 => ?_)
                  · refine wr_seq ?_
                    refine wr_region ?_
                    refine wo_val (.bool false) rfl pv_assign ?_
                    refine wo_nil ?_
                    exact wr_ret (a := false) (vs := [(.bool false)]) Try.func9 hI rfl (.same _)
                  · refine wr_skip ?_
                    refine wr_seq ?_
                    refine wr_seq ?_
                    refine wr_region ?_
                    refine wo_val (.ptr (ix ids 6) g9 0 3) rfl (pv_fa (fa_ptr (c := 0) (off := 3) (i := 3) ti31 rfl ti25 rfl)) ?_
                    refine wo_val (.sl 5 (List.map rSegment r3.1.Segments)) rfl (pv_load (ld_ptr hI rfl rfl rfl ti25 rfl)) ?_
                    refine wo_val (.int .i64 (r3.1.Segments.length : Int)) rfl (pv_len (len_sl ti25)) ?_
                    refine wo_val (.int .i64 0) rfl pv_move ?_
                    refine wo_nil ?_
                    refine wr_block ?_
                    refine wr_drop [none, (some (.rows g1 8 [[(.sl 2 (List.map rVolume vVolumes1)), (.sl 5 (List.map rSector a.Sectors)), (.sl 3 (List.map rConfig a.Configs)), (.sl 5 (List.map rSegment a.Segments)), (.sl 7 (List.map rRoute a.Routes)), (.sl 2 (List.map rAirport vAirports1)), (.sl 4 (List.map rClass vClasses1)), (.sl 8 (List.map rRule a.Rules))]])), none, none, none, none, (some (.rows g9 8 [(rAirspace r3.1)])), none, none, none] hI rfl (.drop (.keep (.keep (.keep (.keep (.drop (.keep (.keep (.keep (.keep .nil)))))))))) ?_
                    refine wr_is [(5, (.ptr (ix ids 1) g1 0 0)), (14, (.ptr (ix ids 6) g9 0 0)), (131, (.sl 5 (List.map rSegment r3.1.Segments))), (132, (.int .i64 (r3.1.Segments.length : Int))), (133, (.int .i64 0))] (.cons rfl (.cons rfl (.cons rfl (.cons rfl (.cons rfl .nil))))) ?_
                    refine wf_each' (P := Try.prog) r3.1.Segments (fun _ a1 => fun _ => law09_NamesTurned_b1 a vVolumes1 vAirports1 vClasses1 a1) ((alt (fun _ => (each (fun _ a2 => fun _ => law09_NamesTurned_b2 a vVolumes1 vAirports1 vClasses1 a2) 0 r3.1.Routes ()).bind (alt (fun _ => (each (fun _ a3 => fun _ => law09_NamesTurned_b3 a vVolumes1 vAirports1 vClasses1 a3) 0 r3.1.Rules ()).bind (alt (fun _ => .ok true) (fun r => .ok r))) (fun r => .ok r))) (fun r => .ok r)) : (Unit ⊕ Bool) → R Bool)
                      (fun j => fun _ => fun (fr : Nat → AV) (h : AHeap) => fr = frA [(5, (.ptr (ix ids 1) g1 0 0)), (14, (.ptr (ix ids 6) g9 0 0)), (131, (.sl 5 (List.map rSegment r3.1.Segments))), (132, (.int .i64 (r3.1.Segments.length : Int))), (133, (.int .i64 (j : Int)))] ∧ h = hp h0 ids [none, (some (.rows g1 8 [[(.sl 2 (List.map rVolume vVolumes1)), (.sl 5 (List.map rSector a.Sectors)), (.sl 3 (List.map rConfig a.Configs)), (.sl 5 (List.map rSegment a.Segments)), (.sl 7 (List.map rRoute a.Routes)), (.sl 2 (List.map rAirport vAirports1)), (.sl 4 (List.map rClass vClasses1)), (.sl 8 (List.map rRule a.Rules))]])), none, none, none, none, (some (.rows g9 8 [(rAirspace r3.1)])), none, none, none]) () ?_ ?_ ?_
                    · exact ⟨rfl, rfl⟩
                    · rintro j a1 ha1 W hW _ fr h ⟨rfl, rfl⟩
                      refine wr_mod (m' := law09_NamesTurned_b1 a vVolumes1 vAirports1 vClasses1 a1) rfl (wr_mod (law09_NamesTurned_b1.eq_1 _ _ _ _ _) ?_)
                      refine wr_seq ?_
                      refine wr_region ?_
                      refine wo_val (.bool (decide ((j : Int) < (r3.1.Segments.length : Int)))) rfl (pv_bin rfl rfl rfl) ?_
                      refine wo_nil ?_
                      refine wr_seq ?_
                      refine wr_lim (t := 131) (L := r3.1.Segments) rfl fun hlim => ?_
                      refine wr_condT rfl (Int.ofNat_lt.2 (lt_of_get ha1)) ?_
                      refine wr_skip ?_
                      refine wr_seq ?_
                      refine wr_block ?_
                      refine wr_seq ?_
                      refine wr_region ?_
                      refine wo_val (.cp (rSegment a1) 0) rfl (pv_ixa (ixa_nat ti25 ti57 rfl ha1)) ?_
                      refine wo_val (.agg (rSegment a1)) rfl (pv_load (ld_cp ti57 rfl)) ?_
                      refine wo_alloc (j := 7) hI rfl rfl rfl rfl ti57 rfl fun g10 => ?_
                      refine wo_store (st_ptr hI rfl rfl rfl rfl ti57 rfl rfl rfl rfl rfl) ?_
                      refine wo_nil ?_
                      refine wr_hp [none, (some (.rows g1 8 [[(.sl 2 (List.map rVolume vVolumes1)), (.sl 5 (List.map rSector a.Sectors)), (.sl 3 (List.map rConfig a.Configs)), (.sl 5 (List.map rSegment a.Segments)), (.sl 7 (List.map rRoute a.Routes)), (.sl 2 (List.map rAirport vAirports1)), (.sl 4 (List.map rClass vClasses1)), (.sl 8 (List.map rRule a.Rules))]])), none, none, none, none, (some (.rows g9 8 [(rAirspace r3.1)])), (some (.rows g10 5 [(rSegment a1)])), none, none] rfl ?_
                      refine wr_seq ?_
                      refine wr_region ?_
                      refine wo_val (.agg [(.sl 2 (List.map rVolume vVolumes1)), (.sl 5 (List.map rSector a.Sectors)), (.sl 3 (List.map rConfig a.Configs)), (.sl 5 (List.map rSegment a.Segments)), (.sl 7 (List.map rRoute a.Routes)), (.sl 2 (List.map rAirport vAirports1)), (.sl 4 (List.map rClass vClasses1)), (.sl 8 (List.map rRule a.Rules))]) rfl (pv_load (ld_ptr hI rfl rfl rfl ti31 rfl)) ?_
                      refine wo_val (.ptr (ix ids 7) g10 0 1) rfl (pv_fa (fa_ptr (c := 0) (off := 1) (i := 1) ti57 rfl ti9 rfl)) ?_
                      refine wo_val (.str a1.In) rfl (pv_load (ld_ptr hI rfl rfl rfl ti9 rfl)) ?_
                      refine of_call [(.agg [(.sl 2 (List.map rVolume vVolumes1)), (.sl 5 (List.map rSector a.Sectors)), (.sl 3 (List.map rConfig a.Configs)), (.sl 5 (List.map rSegment a.Segments)), (.sl 7 (List.map rRoute a.Routes)), (.sl 2 (List.map rAirport vAirports1)), (.sl 4 (List.map rClass vClasses1)), (.sl 8 (List.map rRule a.Rules))]), (.str a1.In)] rfl rfl rfl rfl (fun hb => ACalls.weak (.cons (.aggL (.cons (.same _) (.cons (.same _) (.cons (.same _) (.cons (.same _) (.cons (.same _) (.cons (.same _) (.cons (.same _) (.cons (.same _) .nil))))))))) (.cons (.same _) .nil)) ((cp_names_Volume ({ Volumes := vVolumes1, Sectors := a.Sectors, Configs := a.Configs, Segments := a.Segments, Routes := a.Routes, Airports := vAirports1, Classes := vClasses1, Rules := a.Rules } : Airspace) a1.In) _ hb)) (fun v _ => wu_pan Try.func9 hI) fun r4 _ => ?_
                      refine wo_val (.tup [(.int .i64 r4.1), (.bool r4.2)]) rfl pv_move ?_
                      refine wo_val (.int .i64 r4.1) rfl (pv_ext rfl) ?_
                      refine wo_val (.bool r4.2) rfl (pv_ext rfl) ?_
                      refine wo_val (.int .i64 r4.1) rfl pv_assign ?_
                      refine wo_val (.bool r4.2) rfl pv_assign ?_
                      refine wo_nil ?_
                      refine wr_seq ?_
                      refine wr_region ?_
                      refine wo_val (.bool r4.2) rfl pv_move ?_
                      refine wo_val (.bool (!r4.2)) rfl (pv_un rfl) ?_
                      refine wo_val (.bool (!r4.2)) rfl pv_move ?_
                      refine wo_meet 5 [(5, (.ptr (ix ids 1) g1 0 0)), (14, (.ptr (ix ids 6) g9 0 0)), (131, (.sl 5 (List.map rSegment r3.1.Segments))), (132, (.int .i64 (r3.1.Segments.length : Int))), (133, (.int .i64 (j : Int))), (151, (.bool ((!r4.2) || (r4.1 != a1.Volume))))] ?_ fun hJ1 => wo_cases (!r4.2) (fun hb3 => ?_) (fun hb3 => ?_)
                      · refine wo_nil ?_
                        refine wf_iteb rfl (fun hc8 => ?_) (fun hc8 => ?_)
                        · refine wr_seq ?_
                          refine wr_region ?_
                          refine wo_val (.bool false) rfl pv_assign ?_
                          refine wo_nil ?_
                          refine wx_each ?_
                          refine w_altr ?_
                          exact wr_ret (a := false) (vs := [(.bool false)]) Try.func9 hI rfl (.same _)
                        · refine wr_skip ?_
                          refine wr_inBlock ?_
                          refine wr_region ?_
                          refine wo_val (.int .i64 (IntKind.wrap .i64 ((j : Int) + 1))) rfl (pv_bin rfl rfl rfl) ?_
                          refine wo_val (.int .i64 (IntKind.wrap .i64 ((j : Int) + 1))) rfl pv_move ?_
                          refine wo_nil ?_
                          refine wr_drop [none, (some (.rows g1 8 [[(.sl 2 (List.map rVolume vVolumes1)), (.sl 5 (List.map rSector a.Sectors)), (.sl 3 (List.map rConfig a.Configs)), (.sl 5 (List.map rSegment a.Segments)), (.sl 7 (List.map rRoute a.Routes)), (.sl 2 (List.map rAirport vAirports1)), (.sl 4 (List.map rClass vClasses1)), (.sl 8 (List.map rRule a.Rules))]])), none, none, none, none, (some (.rows g9 8 [(rAirspace r3.1)])), none, none, none] hI rfl (.keep (.keep (.keep (.keep (.keep (.keep (.keep (.drop (.keep (.keep .nil)))))))))) ?_
                          refine wr_is [(5, (.ptr (ix ids 1) g1 0 0)), (14, (.ptr (ix ids 6) g9 0 0)), (131, (.sl 5 (List.map rSegment r3.1.Segments))), (132, (.int .i64 (r3.1.Segments.length : Int))), (133, (.int .i64 ((j + 1 : Nat) : Int)))] (.cons rfl (.cons rfl (.cons rfl (.cons rfl (.cons (inc_ok (lt_of_get ha1) hlim) .nil))))) ?_
                          refine wb_each ?_
                          refine hW () _ _ ?_
                          exact ⟨rfl, rfl⟩
                      · refine wo_not (tj := 146) (b := true) rfl (congrArg AV.bool hb3) rfl rfl ?_
                        refine wo_not (tj := 146) (b := true) rfl (congrArg AV.bool hb3) rfl rfl ?_
                        refine wo_not (tj := 146) (b := true) rfl (congrArg AV.bool hb3) rfl rfl ?_
                        refine wo_not (tj := 146) (b := true) rfl (congrArg AV.bool hb3) rfl rfl ?_
                        refine wo_val (.bool true) rfl (pv_pick (t := true) (congrArg AV.bool hb3) rfl) ?_
                        exact wo_is [(5, (.ptr (ix ids 1) g1 0 0)), (14, (.ptr (ix ids 6) g9 0 0)), (131, (.sl 5 (List.map rSegment r3.1.Segments))), (132, (.int .i64 (r3.1.Segments.length : Int))), (133, (.int .i64 (j : Int))), (151, (.bool ((!r4.2) || (r4.1 != a1.Volume))))] (.cons rfl (.cons rfl (.cons rfl (.cons rfl (.cons rfl (.cons (or_t hb3) .nil)))))) hJ1
                      · refine wo_valg (tj := 146) (.int .i64 r4.1) rfl (congrArg AV.bool hb3) rfl pv_move ?_
                        refine wo_valg (tj := 146) (.ptr (ix ids 7) g10 0 2) rfl (congrArg AV.bool hb3) rfl (pv_fa (fa_ptr (c := 0) (off := 2) (i := 2) ti57 rfl ti3 rfl)) ?_
                        refine wo_valg (tj := 146) (.int .i64 a1.Volume) rfl (congrArg AV.bool hb3) rfl (pv_load (ld_ptr hI rfl rfl rfl ti3 rfl)) ?_
                        refine wo_valg (tj := 146) (.bool (r4.1 != a1.Volume)) rfl (congrArg AV.bool hb3) rfl (pv_bin rfl rfl rfl) ?_
                        refine wo_val (.bool (r4.1 != a1.Volume)) rfl (pv_pick (t := false) (congrArg AV.bool hb3) rfl) ?_
                        exact wo_is [(5, (.ptr (ix ids 1) g1 0 0)), (14, (.ptr (ix ids 6) g9 0 0)), (131, (.sl 5 (List.map rSegment r3.1.Segments))), (132, (.int .i64 (r3.1.Segments.length : Int))), (133, (.int .i64 (j : Int))), (151, (.bool ((!r4.2) || (r4.1 != a1.Volume))))] (.cons rfl (.cons rfl (.cons rfl (.cons rfl (.cons rfl (.cons (or_f hb3) .nil)))))) hJ1
                    · rintro _ fr h ⟨rfl, rfl⟩
                      refine wr_mod (alt_inl _ _ _) ?_
                      refine wr_seq ?_
                      refine wr_region ?_
                      refine wo_val (.bool (decide ((r3.1.Segments.length : Int) < (r3.1.Segments.length : Int)))) rfl (pv_bin rfl rfl rfl) ?_
                      refine wo_nil ?_
                      refine wr_seq ?_
                      refine wr_condF rfl (Int.lt_irrefl _) ?_
                      refine wr_exit rfl ?_
                      refine wr_seq ?_
                      refine wr_seq ?_
                      refine wr_region ?_
                      refine wo_val (.ptr (ix ids 6) g9 0 4) rfl (pv_fa (fa_ptr (c := 0) (off := 4) (i := 4) ti31 rfl ti26 rfl)) ?_
                      refine wo_val (.sl 7 (List.map rRoute r3.1.Routes)) rfl (pv_load (ld_ptr hI rfl rfl rfl ti26 rfl)) ?_
                      refine wo_val (.int .i64 (r3.1.Routes.length : Int)) rfl (pv_len (len_sl ti26)) ?_
                      refine wo_val (.int .i64 0) rfl pv_move ?_
                      refine wo_nil ?_
                      refine wr_block ?_
                      refine wr_is [(5, (.ptr (ix ids 1) g1 0 0)), (14, (.ptr (ix ids 6) g9 0 0)), (154, (.sl 7 (List.map rRoute r3.1.Routes))), (155, (.int .i64 (r3.1.Routes.length : Int))), (156, (.int .i64 0))] (.cons rfl (.cons rfl (.cons rfl (.cons rfl (.cons rfl .nil))))) ?_
                      refine wf_each' (P := Try.prog) r3.1.Routes (fun _ a2 => fun _ => law09_NamesTurned_b2 a vVolumes1 vAirports1 vClasses1 a2) ((alt (fun _ => (each (fun _ a3 => fun _ => law09_NamesTurned_b3 a vVolumes1 vAirports1 vClasses1 a3) 0 r3.1.Rules ()).bind (alt (fun _ => .ok true) (fun r => .ok r))) (fun r => .ok r)) : (Unit ⊕ Bool) → R Bool)
                        (fun j1 => fun _ => fun (fr : Nat → AV) (h : AHeap) => fr = frA [(5, (.ptr (ix ids 1) g1 0 0)), (14, (.ptr (ix ids 6) g9 0 0)), (154, (.sl 7 (List.map rRoute r3.1.Routes))), (155, (.int .i64 (r3.1.Routes.length : Int))), (156, (.int .i64 (j1 : Int)))] ∧ h = hp h0 ids [none, (some (.rows g1 8 [[(.sl 2 (List.map rVolume vVolumes1)), (.sl 5 (List.map rSector a.Sectors)), (.sl 3 (List.map rConfig a.Configs)), (.sl 5 (List.map rSegment a.Segments)), (.sl 7 (List.map rRoute a.Routes)), (.sl 2 (List.map rAirport vAirports1)), (.sl 4 (List.map rClass vClasses1)), (.sl 8 (List.map rRule a.Rules))]])), none, none, none, none, (some (.rows g9 8 [(rAirspace r3.1)])), none, none, none]) () ?_ ?_ ?_
                      · exact ⟨rfl, rfl⟩
                      · rintro j1 a2 ha2 W hW1 _ fr h ⟨rfl, rfl⟩
                        refine wr_mod (m' := law09_NamesTurned_b2 a vVolumes1 vAirports1 vClasses1 a2) rfl (wr_mod (law09_NamesTurned_b2.eq_1 _ _ _ _ _) ?_)
                        refine wr_seq ?_
                        refine wr_region ?_
                        refine wo_val (.bool (decide ((j1 : Int) < (r3.1.Routes.length : Int)))) rfl (pv_bin rfl rfl rfl) ?_
                        refine wo_nil ?_
                        refine wr_seq ?_
                        refine wr_lim (t := 154) (L := r3.1.Routes) rfl fun hlim1 => ?_
                        refine wr_condT rfl (Int.ofNat_lt.2 (lt_of_get ha2)) ?_
                        refine wr_skip ?_
                        refine wr_seq ?_
                        refine wr_block ?_
                        refine wr_seq ?_
                        refine wr_region ?_
                        refine wo_val (.cp (rRoute a2) 0) rfl (pv_ixa (ixa_nat ti26 ti59 rfl ha2)) ?_
                        refine wo_val (.agg (rRoute a2)) rfl (pv_load (ld_cp ti59 rfl)) ?_
                        refine wo_alloc (j := 8) hI rfl rfl rfl rfl ti59 rfl fun g11 => ?_
                        refine wo_store (st_ptr hI rfl rfl rfl rfl ti59 rfl rfl rfl rfl rfl) ?_
                        refine wo_nil ?_
                        refine wr_hp [none, (some (.rows g1 8 [[(.sl 2 (List.map rVolume vVolumes1)), (.sl 5 (List.map rSector a.Sectors)), (.sl 3 (List.map rConfig a.Configs)), (.sl 5 (List.map rSegment a.Segments)), (.sl 7 (List.map rRoute a.Routes)), (.sl 2 (List.map rAirport vAirports1)), (.sl 4 (List.map rClass vClasses1)), (.sl 8 (List.map rRule a.Rules))]])), none, none, none, none, (some (.rows g9 8 [(rAirspace r3.1)])), none, (some (.rows g11 7 [(rRoute a2)])), none] rfl ?_
                        refine wr_seq ?_
                        refine wr_region ?_
                        refine wo_val (.agg [(.sl 2 (List.map rVolume vVolumes1)), (.sl 5 (List.map rSector a.Sectors)), (.sl 3 (List.map rConfig a.Configs)), (.sl 5 (List.map rSegment a.Segments)), (.sl 7 (List.map rRoute a.Routes)), (.sl 2 (List.map rAirport vAirports1)), (.sl 4 (List.map rClass vClasses1)), (.sl 8 (List.map rRule a.Rules))]) rfl (pv_load (ld_ptr hI rfl rfl rfl ti31 rfl)) ?_
                        refine wo_val (.ptr (ix ids 8) g11 0 1) rfl (pv_fa (fa_ptr (c := 0) (off := 1) (i := 1) ti59 rfl ti9 rfl)) ?_
                        refine wo_val (.str a2.A) rfl (pv_load (ld_ptr hI rfl rfl rfl ti9 rfl)) ?_
                        refine of_call [(.agg [(.sl 2 (List.map rVolume vVolumes1)), (.sl 5 (List.map rSector a.Sectors)), (.sl 3 (List.map rConfig a.Configs)), (.sl 5 (List.map rSegment a.Segments)), (.sl 7 (List.map rRoute a.Routes)), (.sl 2 (List.map rAirport vAirports1)), (.sl 4 (List.map rClass vClasses1)), (.sl 8 (List.map rRule a.Rules))]), (.str a2.A)] rfl rfl rfl rfl (fun hb => ACalls.weak (.cons (.aggL (.cons (.same _) (.cons (.same _) (.cons (.same _) (.cons (.same _) (.cons (.same _) (.cons (.same _) (.cons (.same _) (.cons (.same _) .nil))))))))) (.cons (.same _) .nil)) ((cp_names_Airport ({ Volumes := vVolumes1, Sectors := a.Sectors, Configs := a.Configs, Segments := a.Segments, Routes := a.Routes, Airports := vAirports1, Classes := vClasses1, Rules := a.Rules } : Airspace) a2.A) _ hb)) (fun v _ => wu_pan Try.func9 hI) fun r5 _ => ?_
                        refine wo_val (.tup [(.int .i64 r5.1), (.bool r5.2)]) rfl pv_move ?_
                        refine wo_val (.int .i64 r5.1) rfl (pv_ext rfl) ?_
                        refine wo_val (.bool r5.2) rfl (pv_ext rfl) ?_
                        refine wo_val (.int .i64 r5.1) rfl pv_assign ?_
                        refine wo_val (.bool r5.2) rfl pv_assign ?_
                        refine wo_nil ?_
                        refine wr_seq ?_
                        refine wr_region ?_
                        refine wo_val (.agg [(.sl 2 (List.map rVolume vVolumes1)), (.sl 5 (List.map rSector a.Sectors)), (.sl 3 (List.map rConfig a.Configs)), (.sl 5 (List.map rSegment a.Segments)), (.sl 7 (List.map rRoute a.Routes)), (.sl 2 (List.map rAirport vAirports1)), (.sl 4 (List.map rClass vClasses1)), (.sl 8 (List.map rRule a.Rules))]) rfl (pv_load (ld_ptr hI rfl rfl rfl ti31 rfl)) ?_
                        refine wo_val (.ptr (ix ids 8) g11 0 2) rfl (pv_fa (fa_ptr (c := 0) (off := 2) (i := 2) ti59 rfl ti9 rfl)) ?_
                        refine wo_val (.str a2.B) rfl (pv_load (ld_ptr hI rfl rfl rfl ti9 rfl)) ?_
                        refine of_call [(.agg [(.sl 2 (List.map rVolume vVolumes1)), (.sl 5 (List.map rSector a.Sectors)), (.sl 3 (List.map rConfig a.Configs)), (.sl 5 (List.map rSegment a.Segments)), (.sl 7 (List.map rRoute a.Routes)), (.sl 2 (List.map rAirport vAirports1)), (.sl 4 (List.map rClass vClasses1)), (.sl 8 (List.map rRule a.Rules))]), (.str a2.B)] rfl rfl rfl rfl (fun hb => ACalls.weak (.cons (.aggL (.cons (.same _) (.cons (.same _) (.cons (.same _) (.cons (.same _) (.cons (.same _) (.cons (.same _) (.cons (.same _) (.cons (.same _) .nil))))))))) (.cons (.same _) .nil)) ((cp_names_Airport ({ Volumes := vVolumes1, Sectors := a.Sectors, Configs := a.Configs, Segments := a.Segments, Routes := a.Routes, Airports := vAirports1, Classes := vClasses1, Rules := a.Rules } : Airspace) a2.B) _ hb)) (fun v _ => wu_pan Try.func9 hI) fun r6 _ => ?_
                        refine wo_val (.tup [(.int .i64 r6.1), (.bool r6.2)]) rfl pv_move ?_
                        refine wo_val (.int .i64 r6.1) rfl (pv_ext rfl) ?_
                        refine wo_val (.bool r6.2) rfl (pv_ext rfl) ?_
                        refine wo_val (.int .i64 r6.1) rfl pv_assign ?_
                        refine wo_val (.bool r6.2) rfl pv_assign ?_
                        refine wo_nil ?_
                        refine wr_seq ?_
                        refine wr_region ?_
                        refine wo_val (.bool r5.2) rfl pv_move ?_
                        refine wo_val (.bool (!r5.2)) rfl (pv_un rfl) ?_
                        refine wo_val (.bool (!r5.2)) rfl pv_move ?_
                        refine wo_meet 3 [(5, (.ptr (ix ids 1) g1 0 0)), (14, (.ptr (ix ids 6) g9 0 0)), (21, (.ptr (ix ids 8) g11 0 0)), (22, (.int .i64 r5.1)), (24, (.int .i64 r6.1)), (154, (.sl 7 (List.map rRoute r3.1.Routes))), (155, (.int .i64 (r3.1.Routes.length : Int))), (156, (.int .i64 (j1 : Int))), (179, (.bool ((!r5.2) || (!r6.2))))] ?_ fun hJ2 => wo_cases (!r5.2) (fun hb5 => ?_) (fun hb5 => ?_)
                        · refine wo_val (.bool ((!r5.2) || (!r6.2))) rfl pv_move ?_
                          refine wo_meet 5 [(5, (.ptr (ix ids 1) g1 0 0)), (14, (.ptr (ix ids 6) g9 0 0)), (21, (.ptr (ix ids 8) g11 0 0)), (24, (.int .i64 r6.1)), (154, (.sl 7 (List.map rRoute r3.1.Routes))), (155, (.int .i64 (r3.1.Routes.length : Int))), (156, (.int .i64 (j1 : Int))), (185, (.bool (((!r5.2) || (!r6.2)) || (r5.1 != a2.From))))] ?_ fun hJ3 => wo_cases ((!r5.2) || (!r6.2)) (fun hb7 => ?_) (fun hb7 => ?_)
                          · refine wo_val (.bool (((!r5.2) || (!r6.2)) || (r5.1 != a2.From))) rfl pv_move ?_
                            refine wo_meet 5 [(5, (.ptr (ix ids 1) g1 0 0)), (14, (.ptr (ix ids 6) g9 0 0)), (154, (.sl 7 (List.map rRoute r3.1.Routes))), (155, (.int .i64 (r3.1.Routes.length : Int))), (156, (.int .i64 (j1 : Int))), (191, (.bool ((((!r5.2) || (!r6.2)) || (r5.1 != a2.From)) || (r6.1 != a2.To))))] ?_ fun hJ4 => wo_cases (((!r5.2) || (!r6.2)) || (r5.1 != a2.From)) (fun hb9 => ?_) (fun hb9 => ?_)
                            · refine wo_nil ?_
                              refine wf_iteb rfl (fun hc9 => ?_) (fun hc9 => ?_)
                              · refine wr_seq ?_
                                refine wr_region ?_
                                refine wo_val (.bool false) rfl pv_assign ?_
                                refine wo_nil ?_
                                refine wx_each ?_
                                refine w_altr ?_
                                exact wr_ret (a := false) (vs := [(.bool false)]) Try.func9 hI rfl (.same _)
                              · refine wr_skip ?_
                                refine wr_inBlock ?_
                                refine wr_region ?_
                                refine wo_val (.int .i64 (IntKind.wrap .i64 ((j1 : Int) + 1))) rfl (pv_bin rfl rfl rfl) ?_
                                refine wo_val (.int .i64 (IntKind.wrap .i64 ((j1 : Int) + 1))) rfl pv_move ?_
                                refine wo_nil ?_
                                refine wr_drop [none, (some (.rows g1 8 [[(.sl 2 (List.map rVolume vVolumes1)), (.sl 5 (List.map rSector a.Sectors)), (.sl 3 (List.map rConfig a.Configs)), (.sl 5 (List.map rSegment a.Segments)), (.sl 7 (List.map rRoute a.Routes)), (.sl 2 (List.map rAirport vAirports1)), (.sl 4 (List.map rClass vClasses1)), (.sl 8 (List.map rRule a.Rules))]])), none, none, none, none, (some (.rows g9 8 [(rAirspace r3.1)])), none, none, none] hI rfl (.keep (.keep (.keep (.keep (.keep (.keep (.keep (.keep (.drop (.keep .nil)))))))))) ?_
                                refine wr_is [(5, (.ptr (ix ids 1) g1 0 0)), (14, (.ptr (ix ids 6) g9 0 0)), (154, (.sl 7 (List.map rRoute r3.1.Routes))), (155, (.int .i64 (r3.1.Routes.length : Int))), (156, (.int .i64 ((j1 + 1 : Nat) : Int)))] (.cons rfl (.cons rfl (.cons rfl (.cons rfl (.cons (inc_ok (lt_of_get ha2) hlim1) .nil))))) ?_
                                refine wb_each ?_
                                refine hW1 () _ _ ?_
                                exact ⟨rfl, rfl⟩
                            · refine wo_not (tj := 186) (b := true) rfl (congrArg AV.bool hb9) rfl rfl ?_
                              refine wo_not (tj := 186) (b := true) rfl (congrArg AV.bool hb9) rfl rfl ?_
                              refine wo_not (tj := 186) (b := true) rfl (congrArg AV.bool hb9) rfl rfl ?_
                              refine wo_not (tj := 186) (b := true) rfl (congrArg AV.bool hb9) rfl rfl ?_
                              refine wo_val (.bool true) rfl (pv_pick (t := true) (congrArg AV.bool hb9) rfl) ?_
                              exact wo_is [(5, (.ptr (ix ids 1) g1 0 0)), (14, (.ptr (ix ids 6) g9 0 0)), (154, (.sl 7 (List.map rRoute r3.1.Routes))), (155, (.int .i64 (r3.1.Routes.length : Int))), (156, (.int .i64 (j1 : Int))), (191, (.bool ((((!r5.2) || (!r6.2)) || (r5.1 != a2.From)) || (r6.1 != a2.To))))] (.cons rfl (.cons rfl (.cons rfl (.cons rfl (.cons rfl (.cons (or_t hb9) .nil)))))) hJ4
                            · refine wo_valg (tj := 186) (.int .i64 r6.1) rfl (congrArg AV.bool hb9) rfl pv_move ?_
                              refine wo_valg (tj := 186) (.ptr (ix ids 8) g11 0 4) rfl (congrArg AV.bool hb9) rfl (pv_fa (fa_ptr (c := 0) (off := 4) (i := 4) ti59 rfl ti3 rfl)) ?_
                              refine wo_valg (tj := 186) (.int .i64 a2.To) rfl (congrArg AV.bool hb9) rfl (pv_load (ld_ptr hI rfl rfl rfl ti3 rfl)) ?_
                              refine wo_valg (tj := 186) (.bool (r6.1 != a2.To)) rfl (congrArg AV.bool hb9) rfl (pv_bin rfl rfl rfl) ?_
                              refine wo_val (.bool (r6.1 != a2.To)) rfl (pv_pick (t := false) (congrArg AV.bool hb9) rfl) ?_
                              exact wo_is [(5, (.ptr (ix ids 1) g1 0 0)), (14, (.ptr (ix ids 6) g9 0 0)), (154, (.sl 7 (List.map rRoute r3.1.Routes))), (155, (.int .i64 (r3.1.Routes.length : Int))), (156, (.int .i64 (j1 : Int))), (191, (.bool ((((!r5.2) || (!r6.2)) || (r5.1 != a2.From)) || (r6.1 != a2.To))))] (.cons rfl (.cons rfl (.cons rfl (.cons rfl (.cons rfl (.cons (or_f hb9) .nil)))))) hJ4
                          · refine wo_not (tj := 180) (b := true) rfl (congrArg AV.bool hb7) rfl rfl ?_
                            refine wo_not (tj := 180) (b := true) rfl (congrArg AV.bool hb7) rfl rfl ?_
                            refine wo_not (tj := 180) (b := true) rfl (congrArg AV.bool hb7) rfl rfl ?_
                            refine wo_not (tj := 180) (b := true) rfl (congrArg AV.bool hb7) rfl rfl ?_
                            refine wo_val (.bool true) rfl (pv_pick (t := true) (congrArg AV.bool hb7) rfl) ?_
                            exact wo_is [(5, (.ptr (ix ids 1) g1 0 0)), (14, (.ptr (ix ids 6) g9 0 0)), (21, (.ptr (ix ids 8) g11 0 0)), (24, (.int .i64 r6.1)), (154, (.sl 7 (List.map rRoute r3.1.Routes))), (155, (.int .i64 (r3.1.Routes.length : Int))), (156, (.int .i64 (j1 : Int))), (185, (.bool (((!r5.2) || (!r6.2)) || (r5.1 != a2.From))))] (.cons rfl (.cons rfl (.cons rfl (.cons rfl (.cons rfl (.cons rfl (.cons rfl (.cons (or_t hb7) .nil)))))))) hJ3
                          · refine wo_valg (tj := 180) (.int .i64 r5.1) rfl (congrArg AV.bool hb7) rfl pv_move ?_
                            refine wo_valg (tj := 180) (.ptr (ix ids 8) g11 0 3) rfl (congrArg AV.bool hb7) rfl (pv_fa (fa_ptr (c := 0) (off := 3) (i := 3) ti59 rfl ti3 rfl)) ?_
                            refine wo_valg (tj := 180) (.int .i64 a2.From) rfl (congrArg AV.bool hb7) rfl (pv_load (ld_ptr hI rfl rfl rfl ti3 rfl)) ?_
                            refine wo_valg (tj := 180) (.bool (r5.1 != a2.From)) rfl (congrArg AV.bool hb7) rfl (pv_bin rfl rfl rfl) ?_
                            refine wo_val (.bool (r5.1 != a2.From)) rfl (pv_pick (t := false) (congrArg AV.bool hb7) rfl) ?_
                            exact wo_is [(5, (.ptr (ix ids 1) g1 0 0)), (14, (.ptr (ix ids 6) g9 0 0)), (21, (.ptr (ix ids 8) g11 0 0)), (24, (.int .i64 r6.1)), (154, (.sl 7 (List.map rRoute r3.1.Routes))), (155, (.int .i64 (r3.1.Routes.length : Int))), (156, (.int .i64 (j1 : Int))), (185, (.bool (((!r5.2) || (!r6.2)) || (r5.1 != a2.From))))] (.cons rfl (.cons rfl (.cons rfl (.cons rfl (.cons rfl (.cons rfl (.cons rfl (.cons (or_f hb7) .nil)))))))) hJ3
                        · refine wo_not (tj := 176) (b := true) rfl (congrArg AV.bool hb5) rfl rfl ?_
                          refine wo_not (tj := 176) (b := true) rfl (congrArg AV.bool hb5) rfl rfl ?_
                          refine wo_val (.bool true) rfl (pv_pick (t := true) (congrArg AV.bool hb5) rfl) ?_
                          exact wo_is [(5, (.ptr (ix ids 1) g1 0 0)), (14, (.ptr (ix ids 6) g9 0 0)), (21, (.ptr (ix ids 8) g11 0 0)), (22, (.int .i64 r5.1)), (24, (.int .i64 r6.1)), (154, (.sl 7 (List.map rRoute r3.1.Routes))), (155, (.int .i64 (r3.1.Routes.length : Int))), (156, (.int .i64 (j1 : Int))), (179, (.bool ((!r5.2) || (!r6.2))))] (.cons rfl (.cons rfl (.cons rfl (.cons rfl (.cons rfl (.cons rfl (.cons rfl (.cons rfl (.cons (or_t hb5) .nil))))))))) hJ2
                        · refine wo_valg (tj := 176) (.bool r6.2) rfl (congrArg AV.bool hb5) rfl pv_move ?_
                          refine wo_valg (tj := 176) (.bool (!r6.2)) rfl (congrArg AV.bool hb5) rfl (pv_un rfl) ?_
                          refine wo_val (.bool (!r6.2)) rfl (pv_pick (t := false) (congrArg AV.bool hb5) rfl) ?_
                          exact wo_is [(5, (.ptr (ix ids 1) g1 0 0)), (14, (.ptr (ix ids 6) g9 0 0)), (21, (.ptr (ix ids 8) g11 0 0)), (22, (.int .i64 r5.1)), (24, (.int .i64 r6.1)), (154, (.sl 7 (List.map rRoute r3.1.Routes))), (155, (.int .i64 (r3.1.Routes.length : Int))), (156, (.int .i64 (j1 : Int))), (179, (.bool ((!r5.2) || (!r6.2))))] (.cons rfl (.cons rfl (.cons rfl (.cons rfl (.cons rfl (.cons rfl (.cons rfl (.cons rfl (.cons (or_f hb5) .nil))))))))) hJ2
                      · rintro _ fr h ⟨rfl, rfl⟩
                        refine wr_mod (alt_inl _ _ _) ?_
                        refine wr_seq ?_
                        refine wr_region ?_
                        refine wo_val (.bool (decide ((r3.1.Routes.length : Int) < (r3.1.Routes.length : Int)))) rfl (pv_bin rfl rfl rfl) ?_
                        refine wo_nil ?_
                        refine wr_seq ?_
                        refine wr_condF rfl (Int.lt_irrefl _) ?_
                        refine wr_exit rfl ?_
                        refine wr_seq ?_
                        refine wr_seq ?_
                        refine wr_region ?_
                        refine wo_val (.ptr (ix ids 6) g9 0 7) rfl (pv_fa (fa_ptr (c := 0) (off := 7) (i := 7) ti31 rfl ti29 rfl)) ?_
                        refine wo_val (.sl 8 (List.map rRule r3.1.Rules)) rfl (pv_load (ld_ptr hI rfl rfl rfl ti29 rfl)) ?_
                        refine wo_val (.int .i64 (r3.1.Rules.length : Int)) rfl (pv_len (len_sl ti29)) ?_
                        refine wo_val (.int .i64 0) rfl pv_move ?_
                        refine wo_nil ?_
                        refine wr_block ?_
                        refine wr_drop [none, (some (.rows g1 8 [[(.sl 2 (List.map rVolume vVolumes1)), (.sl 5 (List.map rSector a.Sectors)), (.sl 3 (List.map rConfig a.Configs)), (.sl 5 (List.map rSegment a.Segments)), (.sl 7 (List.map rRoute a.Routes)), (.sl 2 (List.map rAirport vAirports1)), (.sl 4 (List.map rClass vClasses1)), (.sl 8 (List.map rRule a.Rules))]])), none, none, none, none, none, none, none, none] hI rfl (.keep (.keep (.keep (.keep (.keep (.keep (.drop (.keep (.keep (.keep .nil)))))))))) ?_
                        refine wr_is [(5, (.ptr (ix ids 1) g1 0 0)), (194, (.sl 8 (List.map rRule r3.1.Rules))), (195, (.int .i64 (r3.1.Rules.length : Int))), (196, (.int .i64 0))] (.cons rfl (.cons rfl (.cons rfl (.cons rfl .nil)))) ?_
                        refine wf_each' (P := Try.prog) r3.1.Rules (fun _ a3 => fun _ => law09_NamesTurned_b3 a vVolumes1 vAirports1 vClasses1 a3) ((alt (fun _ => .ok true) (fun r => .ok r)) : (Unit ⊕ Bool) → R Bool)
                          (fun j2 => fun _ => fun (fr : Nat → AV) (h : AHeap) => fr = frA [(5, (.ptr (ix ids 1) g1 0 0)), (194, (.sl 8 (List.map rRule r3.1.Rules))), (195, (.int .i64 (r3.1.Rules.length : Int))), (196, (.int .i64 (j2 : Int)))] ∧ h = hp h0 ids [none, (some (.rows g1 8 [[(.sl 2 (List.map rVolume vVolumes1)), (.sl 5 (List.map rSector a.Sectors)), (.sl 3 (List.map rConfig a.Configs)), (.sl 5 (List.map rSegment a.Segments)), (.sl 7 (List.map rRoute a.Routes)), (.sl 2 (List.map rAirport vAirports1)), (.sl 4 (List.map rClass vClasses1)), (.sl 8 (List.map rRule a.Rules))]])), none, none, none, none, none, none, none, none]) () ?_ ?_ ?_
                        · exact ⟨rfl, rfl⟩
                        · rintro j2 a3 ha3 W hW2 _ fr h ⟨rfl, rfl⟩
                          refine wr_mod (m' := law09_NamesTurned_b3 a vVolumes1 vAirports1 vClasses1 a3) rfl (wr_mod (law09_NamesTurned_b3.eq_1 _ _ _ _ _) ?_)
                          refine wr_seq ?_
                          refine wr_region ?_
                          refine wo_val (.bool (decide ((j2 : Int) < (r3.1.Rules.length : Int)))) rfl (pv_bin rfl rfl rfl) ?_
                          refine wo_nil ?_
                          refine wr_seq ?_
                          refine wr_lim (t := 194) (L := r3.1.Rules) rfl fun hlim2 => ?_
                          refine wr_condT rfl (Int.ofNat_lt.2 (lt_of_get ha3)) ?_
                          refine wr_skip ?_
                          refine wr_seq ?_
                          refine wr_block ?_
                          refine wr_seq ?_
                          refine wr_region ?_
                          refine wo_val (.cp (rRule a3) 0) rfl (pv_ixa (ixa_nat ti29 ti63 rfl ha3)) ?_
                          refine wo_val (.agg (rRule a3)) rfl (pv_load (ld_cp ti63 rfl)) ?_
                          refine wo_alloc (j := 9) hI rfl rfl rfl rfl ti63 rfl fun g12 => ?_
                          refine wo_store (st_ptr hI rfl rfl rfl rfl ti63 rfl rfl rfl rfl rfl) ?_
                          refine wo_nil ?_
                          refine wr_hp [none, (some (.rows g1 8 [[(.sl 2 (List.map rVolume vVolumes1)), (.sl 5 (List.map rSector a.Sectors)), (.sl 3 (List.map rConfig a.Configs)), (.sl 5 (List.map rSegment a.Segments)), (.sl 7 (List.map rRoute a.Routes)), (.sl 2 (List.map rAirport vAirports1)), (.sl 4 (List.map rClass vClasses1)), (.sl 8 (List.map rRule a.Rules))]])), none, none, none, none, none, none, none, (some (.rows g12 8 [(rRule a3)]))] rfl ?_
                          refine wr_seq ?_
                          refine wr_region ?_
                          refine wo_val (.agg [(.sl 2 (List.map rVolume vVolumes1)), (.sl 5 (List.map rSector a.Sectors)), (.sl 3 (List.map rConfig a.Configs)), (.sl 5 (List.map rSegment a.Segments)), (.sl 7 (List.map rRoute a.Routes)), (.sl 2 (List.map rAirport vAirports1)), (.sl 4 (List.map rClass vClasses1)), (.sl 8 (List.map rRule a.Rules))]) rfl (pv_load (ld_ptr hI rfl rfl rfl ti31 rfl)) ?_
                          refine wo_val (.ptr (ix ids 9) g12 0 1) rfl (pv_fa (fa_ptr (c := 0) (off := 1) (i := 1) ti63 rfl ti9 rfl)) ?_
                          refine wo_val (.str a3.C) rfl (pv_load (ld_ptr hI rfl rfl rfl ti9 rfl)) ?_
                          refine of_call [(.agg [(.sl 2 (List.map rVolume vVolumes1)), (.sl 5 (List.map rSector a.Sectors)), (.sl 3 (List.map rConfig a.Configs)), (.sl 5 (List.map rSegment a.Segments)), (.sl 7 (List.map rRoute a.Routes)), (.sl 2 (List.map rAirport vAirports1)), (.sl 4 (List.map rClass vClasses1)), (.sl 8 (List.map rRule a.Rules))]), (.str a3.C)] rfl rfl rfl rfl (fun hb => ACalls.weak (.cons (.aggL (.cons (.same _) (.cons (.same _) (.cons (.same _) (.cons (.same _) (.cons (.same _) (.cons (.same _) (.cons (.same _) (.cons (.same _) .nil))))))))) (.cons (.same _) .nil)) ((cp_names_Class ({ Volumes := vVolumes1, Sectors := a.Sectors, Configs := a.Configs, Segments := a.Segments, Routes := a.Routes, Airports := vAirports1, Classes := vClasses1, Rules := a.Rules } : Airspace) a3.C) _ hb)) (fun v _ => wu_pan Try.func9 hI) fun r7 _ => ?_
                          refine wo_val (.tup [(.int .i64 r7.1), (.bool r7.2)]) rfl pv_move ?_
                          refine wo_val (.int .i64 r7.1) rfl (pv_ext rfl) ?_
                          refine wo_val (.bool r7.2) rfl (pv_ext rfl) ?_
                          refine wo_val (.int .i64 r7.1) rfl pv_assign ?_
                          refine wo_val (.bool r7.2) rfl pv_assign ?_
                          refine wo_nil ?_
                          refine wr_seq ?_
                          refine wr_region ?_
                          refine wo_val (.bool r7.2) rfl pv_move ?_
                          refine wo_val (.bool (!r7.2)) rfl (pv_un rfl) ?_
                          refine wo_val (.bool (!r7.2)) rfl pv_move ?_
                          refine wo_meet 5 [(5, (.ptr (ix ids 1) g1 0 0)), (194, (.sl 8 (List.map rRule r3.1.Rules))), (195, (.int .i64 (r3.1.Rules.length : Int))), (196, (.int .i64 (j2 : Int))), (214, (.bool ((!r7.2) || (r7.1 != a3.Class))))] ?_ fun hJ5 => wo_cases (!r7.2) (fun hb11 => ?_) (fun hb11 => ?_)
                          · refine wo_nil ?_
                            refine wf_iteb rfl (fun hc10 => ?_) (fun hc10 => ?_)
                            · refine wr_seq ?_
                              refine wr_region ?_
                              refine wo_val (.bool false) rfl pv_assign ?_
                              refine wo_nil ?_
                              refine wx_each ?_
                              refine w_altr ?_
                              exact wr_ret (a := false) (vs := [(.bool false)]) Try.func9 hI rfl (.same _)
                            · refine wr_skip ?_
                              refine wr_inBlock ?_
                              refine wr_region ?_
                              refine wo_val (.int .i64 (IntKind.wrap .i64 ((j2 : Int) + 1))) rfl (pv_bin rfl rfl rfl) ?_
                              refine wo_val (.int .i64 (IntKind.wrap .i64 ((j2 : Int) + 1))) rfl pv_move ?_
                              refine wo_nil ?_
                              refine wr_drop [none, (some (.rows g1 8 [[(.sl 2 (List.map rVolume vVolumes1)), (.sl 5 (List.map rSector a.Sectors)), (.sl 3 (List.map rConfig a.Configs)), (.sl 5 (List.map rSegment a.Segments)), (.sl 7 (List.map rRoute a.Routes)), (.sl 2 (List.map rAirport vAirports1)), (.sl 4 (List.map rClass vClasses1)), (.sl 8 (List.map rRule a.Rules))]])), none, none, none, none, none, none, none, none] hI rfl (.keep (.keep (.keep (.keep (.keep (.keep (.keep (.keep (.keep (.drop .nil)))))))))) ?_
                              refine wr_is [(5, (.ptr (ix ids 1) g1 0 0)), (194, (.sl 8 (List.map rRule r3.1.Rules))), (195, (.int .i64 (r3.1.Rules.length : Int))), (196, (.int .i64 ((j2 + 1 : Nat) : Int)))] (.cons rfl (.cons rfl (.cons rfl (.cons (inc_ok (lt_of_get ha3) hlim2) .nil)))) ?_
                              refine wb_each ?_
                              refine hW2 () _ _ ?_
                              exact ⟨rfl, rfl⟩
                          · refine wo_not (tj := 209) (b := true) rfl (congrArg AV.bool hb11) rfl rfl ?_
                            refine wo_not (tj := 209) (b := true) rfl (congrArg AV.bool hb11) rfl rfl ?_
                            refine wo_not (tj := 209) (b := true) rfl (congrArg AV.bool hb11) rfl rfl ?_
                            refine wo_not (tj := 209) (b := true) rfl (congrArg AV.bool hb11) rfl rfl ?_
                            refine wo_val (.bool true) rfl (pv_pick (t := true) (congrArg AV.bool hb11) rfl) ?_
                            exact wo_is [(5, (.ptr (ix ids 1) g1 0 0)), (194, (.sl 8 (List.map rRule r3.1.Rules))), (195, (.int .i64 (r3.1.Rules.length : Int))), (196, (.int .i64 (j2 : Int))), (214, (.bool ((!r7.2) || (r7.1 != a3.Class))))] (.cons rfl (.cons rfl (.cons rfl (.cons rfl (.cons (or_t hb11) .nil))))) hJ5
                          · refine wo_valg (tj := 209) (.int .i64 r7.1) rfl (congrArg AV.bool hb11) rfl pv_move ?_
                            refine wo_valg (tj := 209) (.ptr (ix ids 9) g12 0 3) rfl (congrArg AV.bool hb11) rfl (pv_fa (fa_ptr (c := 0) (off := 3) (i := 3) ti63 rfl ti3 rfl)) ?_
                            refine wo_valg (tj := 209) (.int .i64 a3.Class) rfl (congrArg AV.bool hb11) rfl (pv_load (ld_ptr hI rfl rfl rfl ti3 rfl)) ?_
                            refine wo_valg (tj := 209) (.bool (r7.1 != a3.Class)) rfl (congrArg AV.bool hb11) rfl (pv_bin rfl rfl rfl) ?_
                            refine wo_val (.bool (r7.1 != a3.Class)) rfl (pv_pick (t := false) (congrArg AV.bool hb11) rfl) ?_
                            exact wo_is [(5, (.ptr (ix ids 1) g1 0 0)), (194, (.sl 8 (List.map rRule r3.1.Rules))), (195, (.int .i64 (r3.1.Rules.length : Int))), (196, (.int .i64 (j2 : Int))), (214, (.bool ((!r7.2) || (r7.1 != a3.Class))))] (.cons rfl (.cons rfl (.cons rfl (.cons rfl (.cons (or_f hb11) .nil))))) hJ5
                        · rintro _ fr h ⟨rfl, rfl⟩
                          refine wr_mod (alt_inl _ _ _) ?_
                          refine wr_seq ?_
                          refine wr_region ?_
                          refine wo_val (.bool (decide ((r3.1.Rules.length : Int) < (r3.1.Rules.length : Int)))) rfl (pv_bin rfl rfl rfl) ?_
                          refine wo_nil ?_
                          refine wr_seq ?_
                          refine wr_condF rfl (Int.lt_irrefl _) ?_
                          refine wr_exit rfl ?_
                          refine wr_seq ?_
                          refine wr_region ?_
                          refine wo_val (.bool true) rfl pv_assign ?_
                          refine wo_nil ?_
                          exact wr_ret (a := true) (vs := [(.bool true)]) Try.func9 hI rfl (.same _)
                · refine wo_not (tj := 121) (b := true) rfl (congrArg AV.bool hb1) rfl rfl ?_
                  refine wo_not (tj := 121) (b := true) rfl (congrArg AV.bool hb1) rfl rfl ?_
                  refine wo_not (tj := 121) (b := true) rfl (congrArg AV.bool hb1) rfl rfl ?_
                  refine wo_not (tj := 121) (b := true) rfl (congrArg AV.bool hb1) rfl rfl ?_
                  refine wo_not (tj := 121) (b := true) rfl (congrArg AV.bool hb1) rfl rfl ?_
                  refine wo_not (tj := 121) (b := true) rfl (congrArg AV.bool hb1) rfl rfl ?_
                  refine wo_not (tj := 121) (b := true) rfl (congrArg AV.bool hb1) rfl rfl ?_
                  refine wo_val (.bool true) rfl (pv_pick (t := true) (congrArg AV.bool hb1) rfl) ?_
                  exact wo_is [(5, (.ptr (ix ids 1) g1 0 0)), (14, (.ptr (ix ids 6) g9 0 0)), (129, (.bool (((r2.1.Segments.length : Int) != (r3.1.Segments.length : Int)) || ((r2.1.Rules.length : Int) != (r3.1.Rules.length : Int)))))] (.cons rfl (.cons rfl (.cons (or_t hb1) .nil))) hJ
                · refine wo_valg (tj := 121) (.ptr (ix ids 5) g8 0 7) rfl (congrArg AV.bool hb1) rfl (pv_fa (fa_ptr (c := 0) (off := 7) (i := 7) ti31 rfl ti29 rfl)) ?_
                  refine wo_valg (tj := 121) (.sl 8 (List.map rRule r2.1.Rules)) rfl (congrArg AV.bool hb1) rfl (pv_load (ld_ptr hI rfl rfl rfl ti29 rfl)) ?_
                  refine wo_valg (tj := 121) (.int .i64 (r2.1.Rules.length : Int)) rfl (congrArg AV.bool hb1) rfl (pv_len (len_sl ti29)) ?_
                  refine wo_valg (tj := 121) (.ptr (ix ids 6) g9 0 7) rfl (congrArg AV.bool hb1) rfl (pv_fa (fa_ptr (c := 0) (off := 7) (i := 7) ti31 rfl ti29 rfl)) ?_
                  refine wo_valg (tj := 121) (.sl 8 (List.map rRule r3.1.Rules)) rfl (congrArg AV.bool hb1) rfl (pv_load (ld_ptr hI rfl rfl rfl ti29 rfl)) ?_
                  refine wo_valg (tj := 121) (.int .i64 (r3.1.Rules.length : Int)) rfl (congrArg AV.bool hb1) rfl (pv_len (len_sl ti29)) ?_
                  refine wo_valg (tj := 121) (.bool ((r2.1.Rules.length : Int) != (r3.1.Rules.length : Int))) rfl (congrArg AV.bool hb1) rfl (pv_bin rfl rfl rfl) ?_
                  refine wo_val (.bool ((r2.1.Rules.length : Int) != (r3.1.Rules.length : Int))) rfl (pv_pick (t := false) (congrArg AV.bool hb1) rfl) ?_
                  exact wo_is [(5, (.ptr (ix ids 1) g1 0 0)), (14, (.ptr (ix ids 6) g9 0 0)), (129, (.bool (((r2.1.Segments.length : Int) != (r3.1.Segments.length : Int)) || ((r2.1.Rules.length : Int) != (r3.1.Rules.length : Int)))))] (.cons rfl (.cons rfl (.cons (or_f hb1) .nil))) hJ
          · refine wf_ite rfl (fun hc4 => ?_) (fun hc4 => ?_)
            · refine wr_seq ?_
              refine wr_region ?_
              refine wo_val (.int .u8 b) rfl pv_move ?_
              refine wo_val (.int .i64 (IntKind.wrap .i64 b)) rfl (pv_conv (cv_int ti5 ti3)) ?_
              refine wo_val (.int .i64 (a.Classes.length : Int)) rfl pv_move ?_
              refine of_need fun hz2 => ?_
              refine wo_val (.int .i64 (Int.tmod (IntKind.wrap .i64 b) (a.Classes.length : Int))) rfl (pv_bin rfl rfl (bin_rem rfl hz2)) ?_
              refine wo_val (.int .i64 (Int.tmod (IntKind.wrap .i64 b) (a.Classes.length : Int))) rfl pv_assign ?_
              refine wo_nil ?_
              refine wr_draw hmix [[], [], [1], [], [1, 2, 3], [0, 1, 2, 3, 4], [], [6], [], [6, 7, 8], [0, 1, 2, 3, 4, 5, 6, 7, 8, 9], [0, 1, 2, 3, 4, 5, 6, 7, 8, 9, 10], [0, 1, 2, 3, 4, 5, 6, 7, 8, 9, 10, 10, 10, 11]] [(false, 1), (false, 2), (false, 3), (false, 4), (false, 6), (false, 7), (false, 8), (false, 9), (true, 0), (true, 5), (true, 10), (false, 11), (true, 12)] (by kernel_rfl) ?_
              refine wp_val (.ptr (ix ids 0) g 0 6) rfl rfl (pv_fa (fa_ptr (c := 0) (off := 6) (i := 6) ti31 rfl ti28 rfl)) ?_
              refine wp_val (.sl 4 (List.map rClass a.Classes)) rfl rfl (pv_load (ld_ptr hI rfl rfl rfl ti28 rfl)) ?_
              refine wp_val (.int .i64 (Int.tmod (IntKind.wrap .i64 b) (a.Classes.length : Int))) rfl rfl pv_move ?_
              refine op_need fun hs4 => ?_
              refine wp_val (.sl 4 (List.map rClass (a.Classes.drop (Int.toNat (Int.tmod (IntKind.wrap .i64 b) (a.Classes.length : Int)))))) rfl rfl (pv_slice (sl_slA ti28 ti43 rfl hs4)) ?_
              refine wp_val (.ptr (ix ids 0) g 0 6) rfl rfl (pv_fa (fa_ptr (c := 0) (off := 6) (i := 6) ti31 rfl ti28 rfl)) ?_
              refine wp_val (.sl 4 (List.map rClass a.Classes)) rfl rfl (pv_load (ld_ptr hI rfl rfl rfl ti28 rfl)) ?_
              refine wp_val (.int .i64 (Int.tmod (IntKind.wrap .i64 b) (a.Classes.length : Int))) rfl rfl pv_move ?_
              refine op_need fun hs5 => ?_
              refine wp_val (.sl 4 (List.map rClass (a.Classes.take (Int.toNat (Int.tmod (IntKind.wrap .i64 b) (a.Classes.length : Int)))))) rfl rfl (pv_slice (sl_slB ti28 ti43 rfl hs5)) ?_
              refine wp_op rfl rfl (fun _ _ => rfl) (fun K hK => eff_bs0 ti28 ti43 (hK _ _ (pend_no rfl (pv_slice (sl_slB ti28 ti43 rfl hs5)) (pend_no rfl pv_move (pend_no rfl (pv_load (ld_ptr hI rfl rfl rfl ti28 rfl)) (pend_no rfl (pv_fa (fa_ptr (c := 0) (off := 6) (i := 6) ti31 rfl ti28 rfl)) (pend_no rfl (pv_slice (sl_slA ti28 ti43 rfl hs4)) (pend_no rfl pv_move (pend_no rfl (pv_load (ld_ptr hI rfl rfl rfl ti28 rfl)) (pend_no rfl (pv_fa (fa_ptr (c := 0) (off := 6) (i := 6) ti31 rfl ti28 rfl)) pend_nil)))))))) ?_)) 
              clear hK K
              refine op_need fun hl4 => ?_
              refine wp_op rfl rfl (fun _ _ => rfl) (fun K hK => eff_append (e := rClass) (L := ([] : List Class)) (L2 := (a.Classes.drop (Int.toNat (Int.tmod (IntKind.wrap .i64 b) (a.Classes.length : Int))))) (v := .emp) (g := 0) (st := 4) (j := 4) hI rfl rfl rfl .nil rfl (src_sl rfl) ti28 ti28 rfl ti43 rfl rfl rfl (by simpa using hl4) fun v4 g6 vH4 => hK _ _ (pend_no rfl (pv_slice (sl_slB ti28 ti43 rfl hs5)) (pend_no rfl pv_move (pend_no rfl (pv_load (ld_ptr hI rfl rfl rfl ti28 rfl)) (pend_no rfl (pv_fa (fa_ptr (c := 0) (off := 6) (i := 6) ti31 rfl ti28 rfl)) (pend_yes rfl (pend_yes rfl (pend_yes rfl (pend_yes rfl pend_nil)))))))) ?_) 
              clear hK K
              refine op_need fun hl5 => ?_
              refine wp_op rfl rfl (fun _ _ => rfl) (fun K hK => eff_append (e := rClass) (L := (a.Classes.drop (Int.toNat (Int.tmod (IntKind.wrap .i64 b) (a.Classes.length : Int))))) (L2 := (a.Classes.take (Int.toNat (Int.tmod (IntKind.wrap .i64 b) (a.Classes.length : Int))))) (v := v4) (g := g6) (st := 4) (j := 4) hI rfl rfl rfl vH4 rfl (src_sl rfl) ti28 ti28 rfl ti43 rfl rfl rfl hl5 fun v5 g7 vH5 => hK _ _ (pend_yes rfl (pend_yes rfl (pend_yes rfl (pend_yes rfl (pend_yes rfl (pend_yes rfl (pend_yes rfl (pend_yes rfl pend_nil)))))))) ?_) 
              clear hK K
              refine wp_val (.ptr (ix ids 1) g1 0 6) rfl rfl (pv_fa (fa_ptr (c := 0) (off := 6) (i := 6) ti31 rfl ti28 rfl)) ?_
              refine wp_op0 rfl (fun _ _ => rfl) (fun K hK => eff_store (st_ptrO vH5 hI rfl rfl rfl rfl ti28 rfl rfl rfl) (hK _ _ (pend_yes rfl (pend_yes rfl (pend_yes rfl (pend_yes rfl (pend_yes rfl (pend_yes rfl (pend_yes rfl (pend_yes rfl (pend_yes rfl pend_nil))))))))) ?_)) 
              clear hK K
              refine wp_nil ?_
              refine wr_hp [(some (.rows g 8 [(rAirspace a)])), (some (.rows g1 8 [[(.sl 2 (List.map rVolume vVolumes1)), (.sl 5 (List.map rSector a.Sectors)), (.sl 3 (List.map rConfig a.Configs)), (.sl 5 (List.map rSegment a.Segments)), (.sl 7 (List.map rRoute a.Routes)), (.sl 2 (List.map rAirport vAirports1)), v5, (.sl 8 (List.map rRule a.Rules))]])), none, none, (ownO v5 g7 4 (List.map rClass ((a.Classes.drop (Int.toNat (Int.tmod (IntKind.wrap .i64 b) (a.Classes.length : Int)))) ++ (a.Classes.take (Int.toNat (Int.tmod (IntKind.wrap .i64 b) (a.Classes.length : Int))))))), none, none, none, none, none] rfl ?_
              refine wr_fz [(some (.rows g 8 [(rAirspace a)])), (some (.rows g1 8 [[(.sl 2 (List.map rVolume vVolumes1)), (.sl 5 (List.map rSector a.Sectors)), (.sl 3 (List.map rConfig a.Configs)), (.sl 5 (List.map rSegment a.Segments)), (.sl 7 (List.map rRoute a.Routes)), (.sl 2 (List.map rAirport vAirports1)), (.sl 4 (List.map rClass ((a.Classes.drop (Int.toNat (Int.tmod (IntKind.wrap .i64 b) (a.Classes.length : Int)))) ++ (a.Classes.take (Int.toNat (Int.tmod (IntKind.wrap .i64 b) (a.Classes.length : Int))))))), (.sl 8 (List.map rRule a.Rules))]])), none, none, none, none, none, none, none, none] [(2, (.ptr (ix ids 0) g 0 0)), (5, (.ptr (ix ids 1) g1 0 0))] hI rfl (.keep (.fz (.cons (.same _) (.cons (.same _) (.cons (.same _) (.cons (.same _) (.cons (.same _) (.cons (.same _) (.cons (own_fz vH5 (hI.at rfl rfl) (hI.at rfl rfl) (fun x => ok_Class x)) (.cons (.same _) .nil)))))))) rfl rfl (.keep (.keep (.drop (.keep (.keep (.keep (.keep (.keep .nil)))))))))) (.cons (.same _) (.cons (.same _) .nil)) ?_
              refine hJ6 ((a.Classes.drop (Int.toNat (Int.tmod (IntKind.wrap .i64 b) (a.Classes.length : Int)))) ++ (a.Classes.take (Int.toNat (Int.tmod (IntKind.wrap .i64 b) (a.Classes.length : Int))))) _ _ ?_
              exact ⟨rfl, rfl⟩
            · refine wr_skip ?_
              refine wr_is [(2, (.ptr (ix ids 0) g 0 0)), (5, (.ptr (ix ids 1) g1 0 0))] (.cons rfl (.cons rfl .nil)) ?_
              refine hJ6 a.Classes _ _ ?_
              exact ⟨rfl, rfl⟩
        · refine wf_ite rfl (fun hc3 => ?_) (fun hc3 => ?_)
          · refine wr_seq ?_
            refine wr_region ?_
            refine wo_val (.int .u8 b) rfl pv_move ?_
            refine wo_val (.int .i64 (IntKind.wrap .i64 b)) rfl (pv_conv (cv_int ti5 ti3)) ?_
            refine wo_val (.int .i64 (a.Airports.length : Int)) rfl pv_move ?_
            refine of_need fun hz1 => ?_
            refine wo_val (.int .i64 (Int.tmod (IntKind.wrap .i64 b) (a.Airports.length : Int))) rfl (pv_bin rfl rfl (bin_rem rfl hz1)) ?_
            refine wo_val (.int .i64 (Int.tmod (IntKind.wrap .i64 b) (a.Airports.length : Int))) rfl pv_assign ?_
            refine wo_nil ?_
            refine wr_draw hmix [[], [], [1], [], [1, 2, 3], [0, 1, 2, 3, 4], [], [6], [], [6, 7, 8], [0, 1, 2, 3, 4, 5, 6, 7, 8, 9], [0, 1, 2, 3, 4, 5, 6, 7, 8, 9, 10], [0, 1, 2, 3, 4, 5, 6, 7, 8, 9, 10, 10, 10, 11]] [(false, 1), (false, 2), (false, 3), (false, 4), (false, 6), (false, 7), (false, 8), (false, 9), (true, 0), (true, 5), (true, 10), (false, 11), (true, 12)] (by kernel_rfl) ?_
            refine wp_val (.ptr (ix ids 0) g 0 5) rfl rfl (pv_fa (fa_ptr (c := 0) (off := 5) (i := 5) ti31 rfl ti27 rfl)) ?_
            refine wp_val (.sl 2 (List.map rAirport a.Airports)) rfl rfl (pv_load (ld_ptr hI rfl rfl rfl ti27 rfl)) ?_
            refine wp_val (.int .i64 (Int.tmod (IntKind.wrap .i64 b) (a.Airports.length : Int))) rfl rfl pv_move ?_
            refine op_need fun hs2 => ?_
            refine wp_val (.sl 2 (List.map rAirport (a.Airports.drop (Int.toNat (Int.tmod (IntKind.wrap .i64 b) (a.Airports.length : Int)))))) rfl rfl (pv_slice (sl_slA ti27 ti46 rfl hs2)) ?_
            refine wp_val (.ptr (ix ids 0) g 0 5) rfl rfl (pv_fa (fa_ptr (c := 0) (off := 5) (i := 5) ti31 rfl ti27 rfl)) ?_
            refine wp_val (.sl 2 (List.map rAirport a.Airports)) rfl rfl (pv_load (ld_ptr hI rfl rfl rfl ti27 rfl)) ?_
            refine wp_val (.int .i64 (Int.tmod (IntKind.wrap .i64 b) (a.Airports.length : Int))) rfl rfl pv_move ?_
            refine op_need fun hs3 => ?_
            refine wp_val (.sl 2 (List.map rAirport (a.Airports.take (Int.toNat (Int.tmod (IntKind.wrap .i64 b) (a.Airports.length : Int)))))) rfl rfl (pv_slice (sl_slB ti27 ti46 rfl hs3)) ?_
            refine wp_op rfl rfl (fun _ _ => rfl) (fun K hK => eff_bs0 ti27 ti46 (hK _ _ (pend_no rfl (pv_slice (sl_slB ti27 ti46 rfl hs3)) (pend_no rfl pv_move (pend_no rfl (pv_load (ld_ptr hI rfl rfl rfl ti27 rfl)) (pend_no rfl (pv_fa (fa_ptr (c := 0) (off := 5) (i := 5) ti31 rfl ti27 rfl)) (pend_no rfl (pv_slice (sl_slA ti27 ti46 rfl hs2)) (pend_no rfl pv_move (pend_no rfl (pv_load (ld_ptr hI rfl rfl rfl ti27 rfl)) (pend_no rfl (pv_fa (fa_ptr (c := 0) (off := 5) (i := 5) ti31 rfl ti27 rfl)) pend_nil)))))))) ?_)) 
            clear hK K
            refine op_need fun hl2 => ?_
            refine wp_op rfl rfl (fun _ _ => rfl) (fun K hK => eff_append (e := rAirport) (L := ([] : List Airport)) (L2 := (a.Airports.drop (Int.toNat (Int.tmod (IntKind.wrap .i64 b) (a.Airports.length : Int))))) (v := .emp) (g := 0) (st := 2) (j := 3) hI rfl rfl rfl .nil rfl (src_sl rfl) ti27 ti27 rfl ti46 rfl rfl rfl (by simpa using hl2) fun v2 g4 vH2 => hK _ _ (pend_no rfl (pv_slice (sl_slB ti27 ti46 rfl hs3)) (pend_no rfl pv_move (pend_no rfl (pv_load (ld_ptr hI rfl rfl rfl ti27 rfl)) (pend_no rfl (pv_fa (fa_ptr (c := 0) (off := 5) (i := 5) ti31 rfl ti27 rfl)) (pend_yes rfl (pend_yes rfl (pend_yes rfl (pend_yes rfl pend_nil)))))))) ?_) 
            clear hK K
            refine op_need fun hl3 => ?_
            refine wp_op rfl rfl (fun _ _ => rfl) (fun K hK => eff_append (e := rAirport) (L := (a.Airports.drop (Int.toNat (Int.tmod (IntKind.wrap .i64 b) (a.Airports.length : Int))))) (L2 := (a.Airports.take (Int.toNat (Int.tmod (IntKind.wrap .i64 b) (a.Airports.length : Int))))) (v := v2) (g := g4) (st := 2) (j := 3) hI rfl rfl rfl vH2 rfl (src_sl rfl) ti27 ti27 rfl ti46 rfl rfl rfl hl3 fun v3 g5 vH3 => hK _ _ (pend_yes rfl (pend_yes rfl (pend_yes rfl (pend_yes rfl (pend_yes rfl (pend_yes rfl (pend_yes rfl (pend_yes rfl pend_nil)))))))) ?_) 
            clear hK K
            refine wp_val (.ptr (ix ids 1) g1 0 5) rfl rfl (pv_fa (fa_ptr (c := 0) (off := 5) (i := 5) ti31 rfl ti27 rfl)) ?_
            refine wp_op0 rfl (fun _ _ => rfl) (fun K hK => eff_store (st_ptrO vH3 hI rfl rfl rfl rfl ti27 rfl rfl rfl) (hK _ _ (pend_yes rfl (pend_yes rfl (pend_yes rfl (pend_yes rfl (pend_yes rfl (pend_yes rfl (pend_yes rfl (pend_yes rfl (pend_yes rfl pend_nil))))))))) ?_)) 
            clear hK K
            refine wp_nil ?_
            refine wr_hp [(some (.rows g 8 [(rAirspace a)])), (some (.rows g1 8 [[(.sl 2 (List.map rVolume vVolumes1)), (.sl 5 (List.map rSector a.Sectors)), (.sl 3 (List.map rConfig a.Configs)), (.sl 5 (List.map rSegment a.Segments)), (.sl 7 (List.map rRoute a.Routes)), v3, (.sl 4 (List.map rClass a.Classes)), (.sl 8 (List.map rRule a.Rules))]])), none, (ownO v3 g5 2 (List.map rAirport ((a.Airports.drop (Int.toNat (Int.tmod (IntKind.wrap .i64 b) (a.Airports.length : Int)))) ++ (a.Airports.take (Int.toNat (Int.tmod (IntKind.wrap .i64 b) (a.Airports.length : Int))))))), none, none, none, none, none, none] rfl ?_
            refine wr_fz [(some (.rows g 8 [(rAirspace a)])), (some (.rows g1 8 [[(.sl 2 (List.map rVolume vVolumes1)), (.sl 5 (List.map rSector a.Sectors)), (.sl 3 (List.map rConfig a.Configs)), (.sl 5 (List.map rSegment a.Segments)), (.sl 7 (List.map rRoute a.Routes)), (.sl 2 (List.map rAirport ((a.Airports.drop (Int.toNat (Int.tmod (IntKind.wrap .i64 b) (a.Airports.length : Int)))) ++ (a.Airports.take (Int.toNat (Int.tmod (IntKind.wrap .i64 b) (a.Airports.length : Int))))))), (.sl 4 (List.map rClass a.Classes)), (.sl 8 (List.map rRule a.Rules))]])), none, none, none, none, none, none, none, none] [(1, (.int .u8 b)), (2, (.ptr (ix ids 0) g 0 0)), (5, (.ptr (ix ids 1) g1 0 0))] hI rfl (.keep (.fz (.cons (.same _) (.cons (.same _) (.cons (.same _) (.cons (.same _) (.cons (.same _) (.cons (own_fz vH3 (hI.at rfl rfl) (hI.at rfl rfl) (fun x => ok_Airport x)) (.cons (.same _) (.cons (.same _) .nil)))))))) rfl rfl (.keep (.drop (.keep (.keep (.keep (.keep (.keep (.keep .nil)))))))))) (.cons (.same _) (.cons (.same _) (.cons (.same _) .nil))) ?_
            refine hJ7 ((a.Airports.drop (Int.toNat (Int.tmod (IntKind.wrap .i64 b) (a.Airports.length : Int)))) ++ (a.Airports.take (Int.toNat (Int.tmod (IntKind.wrap .i64 b) (a.Airports.length : Int))))) _ _ ?_
            exact ⟨rfl, rfl⟩
          · refine wr_skip ?_
            refine wr_is [(1, (.int .u8 b)), (2, (.ptr (ix ids 0) g 0 0)), (5, (.ptr (ix ids 1) g1 0 0))] (.cons rfl (.cons rfl (.cons rfl .nil))) ?_
            refine hJ7 a.Airports _ _ ?_
            exact ⟨rfl, rfl⟩
      · refine wf_ite rfl (fun hc2 => ?_) (fun hc2 => ?_)
        · refine wr_seq ?_
          refine wr_region ?_
          refine wo_val (.int .u8 b) rfl pv_move ?_
          refine wo_val (.int .i64 (IntKind.wrap .i64 b)) rfl (pv_conv (cv_int ti5 ti3)) ?_
          refine wo_val (.int .i64 (a.Volumes.length : Int)) rfl pv_move ?_
          refine of_need fun hz => ?_
          refine wo_val (.int .i64 (Int.tmod (IntKind.wrap .i64 b) (a.Volumes.length : Int))) rfl (pv_bin rfl rfl (bin_rem rfl hz)) ?_
          refine wo_val (.int .i64 (Int.tmod (IntKind.wrap .i64 b) (a.Volumes.length : Int))) rfl pv_assign ?_
          refine wo_nil ?_
          refine wr_draw hmix [[], [], [1], [], [1, 2, 3], [0, 1, 2, 3, 4], [], [6], [], [6, 7, 8], [0, 1, 2, 3, 4, 5, 6, 7, 8, 9], [0, 1, 2, 3, 4, 5, 6, 7, 8, 9, 10], [0, 1, 2, 3, 4, 5, 6, 7, 8, 9, 10, 10, 10, 11]] [(false, 1), (false, 2), (false, 3), (false, 4), (false, 6), (false, 7), (false, 8), (false, 9), (true, 0), (true, 5), (true, 10), (false, 11), (true, 12)] (by kernel_rfl) ?_
          refine wp_val (.ptr (ix ids 0) g 0 0) rfl rfl (pv_fa (fa_ptr (c := 0) (off := 0) (i := 0) ti31 rfl ti22 rfl)) ?_
          refine wp_val (.sl 2 (List.map rVolume a.Volumes)) rfl rfl (pv_load (ld_ptr hI rfl rfl rfl ti22 rfl)) ?_
          refine wp_val (.int .i64 (Int.tmod (IntKind.wrap .i64 b) (a.Volumes.length : Int))) rfl rfl pv_move ?_
          refine op_need fun hs => ?_
          refine wp_val (.sl 2 (List.map rVolume (a.Volumes.drop (Int.toNat (Int.tmod (IntKind.wrap .i64 b) (a.Volumes.length : Int)))))) rfl rfl (pv_slice (sl_slA ti22 ti41 rfl hs)) ?_
          refine wp_val (.ptr (ix ids 0) g 0 0) rfl rfl (pv_fa (fa_ptr (c := 0) (off := 0) (i := 0) ti31 rfl ti22 rfl)) ?_
          refine wp_val (.sl 2 (List.map rVolume a.Volumes)) rfl rfl (pv_load (ld_ptr hI rfl rfl rfl ti22 rfl)) ?_
          refine wp_val (.int .i64 (Int.tmod (IntKind.wrap .i64 b) (a.Volumes.length : Int))) rfl rfl pv_move ?_
          refine op_need fun hs1 => ?_
          refine wp_val (.sl 2 (List.map rVolume (a.Volumes.take (Int.toNat (Int.tmod (IntKind.wrap .i64 b) (a.Volumes.length : Int)))))) rfl rfl (pv_slice (sl_slB ti22 ti41 rfl hs1)) ?_
          refine wp_op rfl rfl (fun _ _ => rfl) (fun K hK => eff_bs0 ti22 ti41 (hK _ _ (pend_no rfl (pv_slice (sl_slB ti22 ti41 rfl hs1)) (pend_no rfl pv_move (pend_no rfl (pv_load (ld_ptr hI rfl rfl rfl ti22 rfl)) (pend_no rfl (pv_fa (fa_ptr (c := 0) (off := 0) (i := 0) ti31 rfl ti22 rfl)) (pend_no rfl (pv_slice (sl_slA ti22 ti41 rfl hs)) (pend_no rfl pv_move (pend_no rfl (pv_load (ld_ptr hI rfl rfl rfl ti22 rfl)) (pend_no rfl (pv_fa (fa_ptr (c := 0) (off := 0) (i := 0) ti31 rfl ti22 rfl)) pend_nil)))))))) ?_)) 
          clear hK K
          refine op_need fun hl => ?_
          refine wp_op rfl rfl (fun _ _ => rfl) (fun K hK => eff_append (e := rVolume) (L := ([] : List Volume)) (L2 := (a.Volumes.drop (Int.toNat (Int.tmod (IntKind.wrap .i64 b) (a.Volumes.length : Int))))) (v := .emp) (g := 0) (st := 2) (j := 2) hI rfl rfl rfl .nil rfl (src_sl rfl) ti22 ti22 rfl ti41 rfl rfl rfl (by simpa using hl) fun v g2 vH => hK _ _ (pend_no rfl (pv_slice (sl_slB ti22 ti41 rfl hs1)) (pend_no rfl pv_move (pend_no rfl (pv_load (ld_ptr hI rfl rfl rfl ti22 rfl)) (pend_no rfl (pv_fa (fa_ptr (c := 0) (off := 0) (i := 0) ti31 rfl ti22 rfl)) (pend_yes rfl (pend_yes rfl (pend_yes rfl (pend_yes rfl pend_nil)))))))) ?_) 
          clear hK K
          refine op_need fun hl1 => ?_
          refine wp_op rfl rfl (fun _ _ => rfl) (fun K hK => eff_append (e := rVolume) (L := (a.Volumes.drop (Int.toNat (Int.tmod (IntKind.wrap .i64 b) (a.Volumes.length : Int))))) (L2 := (a.Volumes.take (Int.toNat (Int.tmod (IntKind.wrap .i64 b) (a.Volumes.length : Int))))) (v := v) (g := g2) (st := 2) (j := 2) hI rfl rfl rfl vH rfl (src_sl rfl) ti22 ti22 rfl ti41 rfl rfl rfl hl1 fun v1 g3 vH1 => hK _ _ (pend_yes rfl (pend_yes rfl (pend_yes rfl (pend_yes rfl (pend_yes rfl (pend_yes rfl (pend_yes rfl (pend_yes rfl pend_nil)))))))) ?_) 
          clear hK K
          refine wp_val (.ptr (ix ids 1) g1 0 0) rfl rfl (pv_fa (fa_ptr (c := 0) (off := 0) (i := 0) ti31 rfl ti22 rfl)) ?_
          refine wp_op0 rfl (fun _ _ => rfl) (fun K hK => eff_store (st_ptrO vH1 hI rfl rfl rfl rfl ti22 rfl rfl rfl) (hK _ _ (pend_yes rfl (pend_yes rfl (pend_yes rfl (pend_yes rfl (pend_yes rfl (pend_yes rfl (pend_yes rfl (pend_yes rfl (pend_yes rfl pend_nil))))))))) ?_)) 
          clear hK K
          refine wp_nil ?_
          refine wr_hp [(some (.rows g 8 [(rAirspace a)])), (some (.rows g1 8 [[v1, (.sl 5 (List.map rSector a.Sectors)), (.sl 3 (List.map rConfig a.Configs)), (.sl 5 (List.map rSegment a.Segments)), (.sl 7 (List.map rRoute a.Routes)), (.sl 2 (List.map rAirport a.Airports)), (.sl 4 (List.map rClass a.Classes)), (.sl 8 (List.map rRule a.Rules))]])), (ownO v1 g3 2 (List.map rVolume ((a.Volumes.drop (Int.toNat (Int.tmod (IntKind.wrap .i64 b) (a.Volumes.length : Int)))) ++ (a.Volumes.take (Int.toNat (Int.tmod (IntKind.wrap .i64 b) (a.Volumes.length : Int))))))), none, none, none, none, none, none, none] rfl ?_
          refine wr_fz [(some (.rows g 8 [(rAirspace a)])), (some (.rows g1 8 [[(.sl 2 (List.map rVolume ((a.Volumes.drop (Int.toNat (Int.tmod (IntKind.wrap .i64 b) (a.Volumes.length : Int)))) ++ (a.Volumes.take (Int.toNat (Int.tmod (IntKind.wrap .i64 b) (a.Volumes.length : Int))))))), (.sl 5 (List.map rSector a.Sectors)), (.sl 3 (List.map rConfig a.Configs)), (.sl 5 (List.map rSegment a.Segments)), (.sl 7 (List.map rRoute a.Routes)), (.sl 2 (List.map rAirport a.Airports)), (.sl 4 (List.map rClass a.Classes)), (.sl 8 (List.map rRule a.Rules))]])), none, none, none, none, none, none, none, none] [(1, (.int .u8 b)), (2, (.ptr (ix ids 0) g 0 0)), (5, (.ptr (ix ids 1) g1 0 0))] hI rfl (.keep (.fz (.cons (own_fz vH1 (hI.at rfl rfl) (hI.at rfl rfl) (fun x => ok_Volume x)) (.cons (.same _) (.cons (.same _) (.cons (.same _) (.cons (.same _) (.cons (.same _) (.cons (.same _) (.cons (.same _) .nil)))))))) rfl rfl (.drop (.keep (.keep (.keep (.keep (.keep (.keep (.keep .nil)))))))))) (.cons (.same _) (.cons (.same _) (.cons (.same _) .nil))) ?_
          refine hJ8 ((a.Volumes.drop (Int.toNat (Int.tmod (IntKind.wrap .i64 b) (a.Volumes.length : Int)))) ++ (a.Volumes.take (Int.toNat (Int.tmod (IntKind.wrap .i64 b) (a.Volumes.length : Int))))) _ _ ?_
          exact ⟨rfl, rfl⟩
        · refine wr_skip ?_
          refine wr_is [(1, (.int .u8 b)), (2, (.ptr (ix ids 0) g 0 0)), (5, (.ptr (ix ids 1) g1 0 0))] (.cons rfl (.cons rfl (.cons rfl .nil))) ?_
          refine hJ8 a.Volumes _ _ ?_
          exact ⟨rfl, rfl⟩
    · refine wr_seq ?_
      refine wr_region ?_
      refine wo_val (.bool true) rfl pv_assign ?_
      refine wo_nil ?_
      exact wr_ret (a := true) (vs := [(.bool true)]) Try.func9 hI rfl (.same _)
  · refine wr_seq ?_
    refine wr_region ?_
    refine wo_val (.bool false) rfl pv_assign ?_
    refine wo_nil ?_
    exact wr_ret (a := false) (vs := [(.bool false)]) Try.func9 hI rfl (.same _)
end Go.Am

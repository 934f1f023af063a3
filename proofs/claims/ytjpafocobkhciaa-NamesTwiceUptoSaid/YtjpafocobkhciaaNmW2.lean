/- The models hold of the program. Written by dc.py. -/
import Derived.Test.YtjpafocobkhciaaNmW1
namespace Go.Am
open Go Go.Proofs
set_option maxRecDepth 100000
set_option linter.unusedSimpArgs false
set_option linter.unusedVariables false
theorem cp_ref09_Few (a : Airspace) : CP Try.prog 11 [(.agg (rAirspace a))] (ref09_Few a) (fun (x : Bool) => (AV.bool x)) := by
  refine cp_intro (n := 107) 1 Try.func11 rfl (by decide) rfl rfl fun h0 ids hI => ?_
  refine wr_in (wr_mod (ref09_Few.eq_1 _) ?_)
  refine wr_seq ?_
  refine wr_region ?_
  refine wo_box (v := (.agg (rAirspace a))) (j := 0) hI rfl rfl rfl rfl rfl rfl rfl fun g => ?_
  refine wo_val (.bool false) rfl pv_assign ?_
  refine wo_nil ?_
  refine wr_hp [(some (.rows g 8 [(rAirspace a)]))] rfl ?_
  refine wr_seq ?_
  refine wr_region ?_
  refine wo_val (.ptr (ix ids 0) g 0 0) rfl (pv_fa (fa_ptr (c := 0) (off := 0) (i := 0) ti31 rfl ti22 rfl)) ?_
  refine wo_val (.sl 2 (List.map rVolume a.Volumes)) rfl (pv_load (ld_ptr hI rfl rfl rfl ti22 rfl)) ?_
  refine wo_val (.int .i64 (a.Volumes.length : Int)) rfl (pv_len (len_sl ti22)) ?_
  refine wo_val (.ptr (ix ids 0) g 0 1) rfl (pv_fa (fa_ptr (c := 0) (off := 1) (i := 1) ti31 rfl ti23 rfl)) ?_
  refine wo_val (.sl 5 (List.map rSector a.Sectors)) rfl (pv_load (ld_ptr hI rfl rfl rfl ti23 rfl)) ?_
  refine wo_val (.int .i64 (a.Sectors.length : Int)) rfl (pv_len (len_sl ti23)) ?_
  refine wo_val (.int .i64 (IntKind.wrap .i64 ((a.Volumes.length : Int) + (a.Sectors.length : Int)))) rfl (pv_bin rfl rfl rfl) ?_
  refine wo_val (.ptr (ix ids 0) g 0 2) rfl (pv_fa (fa_ptr (c := 0) (off := 2) (i := 2) ti31 rfl ti24 rfl)) ?_
  refine wo_val (.sl 3 (List.map rConfig a.Configs)) rfl (pv_load (ld_ptr hI rfl rfl rfl ti24 rfl)) ?_
  refine wo_val (.int .i64 (a.Configs.length : Int)) rfl (pv_len (len_sl ti24)) ?_
  refine wo_val (.int .i64 (IntKind.wrap .i64 ((IntKind.wrap .i64 ((a.Volumes.length : Int) + (a.Sectors.length : Int))) + (a.Configs.length : Int)))) rfl (pv_bin rfl rfl rfl) ?_
  refine wo_val (.ptr (ix ids 0) g 0 3) rfl (pv_fa (fa_ptr (c := 0) (off := 3) (i := 3) ti31 rfl ti25 rfl)) ?_
  refine wo_val (.sl 5 (List.map rSegment a.Segments)) rfl (pv_load (ld_ptr hI rfl rfl rfl ti25 rfl)) ?_
  refine wo_val (.int .i64 (a.Segments.length : Int)) rfl (pv_len (len_sl ti25)) ?_
  refine wo_val (.int .i64 (IntKind.wrap .i64 ((IntKind.wrap .i64 ((IntKind.wrap .i64 ((a.Volumes.length : Int) + (a.Sectors.length : Int))) + (a.Configs.length : Int))) + (a.Segments.length : Int)))) rfl (pv_bin rfl rfl rfl) ?_
  refine wo_val (.ptr (ix ids 0) g 0 4) rfl (pv_fa (fa_ptr (c := 0) (off := 4) (i := 4) ti31 rfl ti26 rfl)) ?_
  refine wo_val (.sl 7 (List.map rRoute a.Routes)) rfl (pv_load (ld_ptr hI rfl rfl rfl ti26 rfl)) ?_
  refine wo_val (.int .i64 (a.Routes.length : Int)) rfl (pv_len (len_sl ti26)) ?_
  refine wo_val (.int .i64 (IntKind.wrap .i64 ((IntKind.wrap .i64 ((IntKind.wrap .i64 ((IntKind.wrap .i64 ((a.Volumes.length : Int) + (a.Sectors.length : Int))) + (a.Configs.length : Int))) + (a.Segments.length : Int))) + (a.Routes.length : Int)))) rfl (pv_bin rfl rfl rfl) ?_
  refine wo_val (.ptr (ix ids 0) g 0 5) rfl (pv_fa (fa_ptr (c := 0) (off := 5) (i := 5) ti31 rfl ti27 rfl)) ?_
  refine wo_val (.sl 2 (List.map rAirport a.Airports)) rfl (pv_load (ld_ptr hI rfl rfl rfl ti27 rfl)) ?_
  refine wo_val (.int .i64 (a.Airports.length : Int)) rfl (pv_len (len_sl ti27)) ?_
  refine wo_val (.int .i64 (IntKind.wrap .i64 ((IntKind.wrap .i64 ((IntKind.wrap .i64 ((IntKind.wrap .i64 ((IntKind.wrap .i64 ((a.Volumes.length : Int) + (a.Sectors.length : Int))) + (a.Configs.length : Int))) + (a.Segments.length : Int))) + (a.Routes.length : Int))) + (a.Airports.length : Int)))) rfl (pv_bin rfl rfl rfl) ?_
  refine wo_val (.ptr (ix ids 0) g 0 6) rfl (pv_fa (fa_ptr (c := 0) (off := 6) (i := 6) ti31 rfl ti28 rfl)) ?_
  refine wo_val (.sl 4 (List.map rClass a.Classes)) rfl (pv_load (ld_ptr hI rfl rfl rfl ti28 rfl)) ?_
  refine wo_val (.int .i64 (a.Classes.length : Int)) rfl (pv_len (len_sl ti28)) ?_
  refine wo_val (.int .i64 (IntKind.wrap .i64 ((IntKind.wrap .i64 ((IntKind.wrap .i64 ((IntKind.wrap .i64 ((IntKind.wrap .i64 ((IntKind.wrap .i64 ((a.Volumes.length : Int) + (a.Sectors.length : Int))) + (a.Configs.length : Int))) + (a.Segments.length : Int))) + (a.Routes.length : Int))) + (a.Airports.length : Int))) + (a.Classes.length : Int)))) rfl (pv_bin rfl rfl rfl) ?_
  refine wo_val (.ptr (ix ids 0) g 0 7) rfl (pv_fa (fa_ptr (c := 0) (off := 7) (i := 7) ti31 rfl ti29 rfl)) ?_
  refine wo_val (.sl 8 (List.map rRule a.Rules)) rfl (pv_load (ld_ptr hI rfl rfl rfl ti29 rfl)) ?_
  refine wo_val (.int .i64 (a.Rules.length : Int)) rfl (pv_len (len_sl ti29)) ?_
  refine wo_val (.int .i64 (IntKind.wrap .i64 ((IntKind.wrap .i64 ((IntKind.wrap .i64 ((IntKind.wrap .i64 ((IntKind.wrap .i64 ((IntKind.wrap .i64 ((IntKind.wrap .i64 ((a.Volumes.length : Int) + (a.Sectors.length : Int))) + (a.Configs.length : Int))) + (a.Segments.length : Int))) + (a.Routes.length : Int))) + (a.Airports.length : Int))) + (a.Classes.length : Int))) + (a.Rules.length : Int)))) rfl (pv_bin rfl rfl rfl) ?_
  refine wo_val (.int .i64 (IntKind.wrap .i64 ((IntKind.wrap .i64 ((IntKind.wrap .i64 ((IntKind.wrap .i64 ((IntKind.wrap .i64 ((IntKind.wrap .i64 ((IntKind.wrap .i64 ((a.Volumes.length : Int) + (a.Sectors.length : Int))) + (a.Configs.length : Int))) + (a.Segments.length : Int))) + (a.Routes.length : Int))) + (a.Airports.length : Int))) + (a.Classes.length : Int))) + (a.Rules.length : Int)))) rfl pv_assign ?_
  refine wo_nil ?_
  refine wr_seq ?_
  refine wr_seq ?_
  refine wr_region ?_
  refine wo_val (.int .i64 (IntKind.wrap .i64 ((IntKind.wrap .i64 ((IntKind.wrap .i64 ((IntKind.wrap .i64 ((IntKind.wrap .i64 ((IntKind.wrap .i64 ((IntKind.wrap .i64 ((a.Volumes.length : Int) + (a.Sectors.length : Int))) + (a.Configs.length : Int))) + (a.Segments.length : Int))) + (a.Routes.length : Int))) + (a.Airports.length : Int))) + (a.Classes.length : Int))) + (a.Rules.length : Int)))) rfl pv_move ?_
  refine wo_val (.bool (decide ((IntKind.wrap .i64 ((IntKind.wrap .i64 ((IntKind.wrap .i64 ((IntKind.wrap .i64 ((IntKind.wrap .i64 ((IntKind.wrap .i64 ((IntKind.wrap .i64 ((a.Volumes.length : Int) + (a.Sectors.length : Int))) + (a.Configs.length : Int))) + (a.Segments.length : Int))) + (a.Routes.length : Int))) + (a.Airports.length : Int))) + (a.Classes.length : Int))) + (a.Rules.length : Int))) > 80))) rfl (pv_bin rfl rfl rfl) ?_
  refine wo_nil ?_
  refine wf_ite rfl (fun hc => ?_) (fun hc => ?_)
  · refine wr_seq ?_
    refine wr_region ?_
    refine wo_val (.bool false) rfl pv_assign ?_
    refine wo_nil ?_
    exact wr_ret (a := false) (vs := [(.bool false)]) Try.func11 hI rfl (.same _)
  · refine wr_skip ?_
    refine wr_seq ?_
    refine wr_seq ?_
    refine wr_region ?_
    refine wo_val (.int .i64 0) rfl pv_assign ?_
    refine wo_nil ?_
    refine wr_block ?_
    refine wr_lim (t := 12) (L := a.Sectors) rfl fun hlim => ?_
    refine wr_is [(1, (.ptr (ix ids 0) g 0 0)), (3, (.int .i64 (IntKind.wrap .i64 ((IntKind.wrap .i64 ((IntKind.wrap .i64 ((IntKind.wrap .i64 ((IntKind.wrap .i64 ((IntKind.wrap .i64 ((IntKind.wrap .i64 ((a.Volumes.length : Int) + (a.Sectors.length : Int))) + (a.Configs.length : Int))) + (a.Segments.length : Int))) + (a.Routes.length : Int))) + (a.Airports.length : Int))) + (a.Classes.length : Int))) + (a.Rules.length : Int))))), (4, (.int .i64 0))] (.cons rfl (.cons rfl (.cons rfl .nil))) ?_
    refine wf_eachS' (P := Try.prog) a.Sectors (fun _ a1 => fun n => ref09_Few_b1 a1 n) (((fun n => (eachS (fun _ a2 => fun n1 => ref09_Few_b2 a2 n1) 0 a.Configs n).bind ((fun n1 => (eachS (fun _ a3 => fun n2 => ref09_Few_b3 a3 n2) 0 a.Routes n1).bind ((fun n2 => (eachS (fun _ a4 => fun n3 => ref09_Few_b4 a4 n3) 0 a.Airports n2).bind ((fun n3 => .ok (decide (n3 ≤ 300)))))))))) : Int → R Bool)
      (fun j => fun n => fun (fr : Nat → AV) (h : AHeap) => fr = frA [(1, (.ptr (ix ids 0) g 0 0)), (3, (.int .i64 n)), (4, (.int .i64 (j : Int)))] ∧ h = hp h0 ids [(some (.rows g 8 [(rAirspace a)]))]) (IntKind.wrap .i64 ((IntKind.wrap .i64 ((IntKind.wrap .i64 ((IntKind.wrap .i64 ((IntKind.wrap .i64 ((IntKind.wrap .i64 ((IntKind.wrap .i64 ((a.Volumes.length : Int) + (a.Sectors.length : Int))) + (a.Configs.length : Int))) + (a.Segments.length : Int))) + (a.Routes.length : Int))) + (a.Airports.length : Int))) + (a.Classes.length : Int))) + (a.Rules.length : Int))) ?_ ?_ ?_
    · exact ⟨rfl, rfl⟩
    · rintro j a1 ha1 W hW n fr h ⟨rfl, rfl⟩
      refine wr_mod (m' := ref09_Few_b1 a1 n) rfl (wr_mod (ref09_Few_b1.eq_1 _ _) ?_)
      refine wr_seq ?_
      refine wr_seq ?_
      refine wr_region ?_
      refine wo_val (.int .i64 (j : Int)) rfl pv_move ?_
      refine wo_val (.ptr (ix ids 0) g 0 1) rfl (pv_fa (fa_ptr (c := 0) (off := 1) (i := 1) ti31 rfl ti23 rfl)) ?_
      refine wo_val (.sl 5 (List.map rSector a.Sectors)) rfl (pv_load (ld_ptr hI rfl rfl rfl ti23 rfl)) ?_
      refine wo_val (.int .i64 (a.Sectors.length : Int)) rfl (pv_len (len_sl ti23)) ?_
      refine wo_val (.bool (decide ((j : Int) < (a.Sectors.length : Int)))) rfl (pv_bin rfl rfl rfl) ?_
      refine wo_nil ?_
      refine wr_condT rfl (Int.ofNat_lt.2 (lt_of_get ha1)) ?_
      refine wr_skip ?_
      refine wr_seq ?_
      refine wr_block ?_
      refine wr_region ?_
      refine wo_val (.int .i64 n) rfl pv_move ?_
      refine wo_val (.ptr (ix ids 0) g 0 1) rfl (pv_fa (fa_ptr (c := 0) (off := 1) (i := 1) ti31 rfl ti23 rfl)) ?_
      refine wo_val (.sl 5 (List.map rSector a.Sectors)) rfl (pv_load (ld_ptr hI rfl rfl rfl ti23 rfl)) ?_
      refine wo_val (.int .i64 (j : Int)) rfl pv_move ?_
      refine wo_val (.cp (rSector a1) 0) rfl (pv_ixa (ixa_nat ti23 ti53 rfl ha1)) ?_
      refine wo_val (.cp (rSector a1) 1) rfl (pv_fa (fa_cp (c := 0) (off := 1) (i := 1) ti53 rfl ti38 rfl)) ?_
      refine wo_val (.sl 1 (List.map rS a1.Names)) rfl (pv_load (ld_cp ti38 rfl)) ?_
      refine wo_val (.int .i64 (a1.Names.length : Int)) rfl (pv_len (len_sl ti38)) ?_
      refine wo_val (.int .i64 (IntKind.wrap .i64 (n + (a1.Names.length : Int)))) rfl (pv_bin rfl rfl rfl) ?_
      refine wo_val (.int .i64 (IntKind.wrap .i64 (n + (a1.Names.length : Int)))) rfl pv_assign ?_
      refine wo_nil ?_
      refine wr_inBlock ?_
      refine wr_region ?_
      refine wo_val (.int .i64 (j : Int)) rfl pv_move ?_
      refine wo_val (.int .i64 (IntKind.wrap .i64 ((j : Int) + 1))) rfl (pv_bin rfl rfl rfl) ?_
      refine wo_val (.int .i64 (IntKind.wrap .i64 ((j : Int) + 1))) rfl pv_assign ?_
      refine wo_nil ?_
      refine wr_is [(1, (.ptr (ix ids 0) g 0 0)), (3, (.int .i64 (IntKind.wrap .i64 (n + (a1.Names.length : Int))))), (4, (.int .i64 ((j + 1 : Nat) : Int)))] (.cons rfl (.cons rfl (.cons (inc_ok (lt_of_get ha1) hlim) .nil))) ?_
      refine wb_S ?_
      refine hW (IntKind.wrap .i64 (n + (a1.Names.length : Int))) _ _ ?_
      exact ⟨rfl, rfl⟩
    · rintro n fr h ⟨rfl, rfl⟩
      refine wr_seq ?_
      refine wr_seq ?_
      refine wr_region ?_
      refine wo_val (.int .i64 (a.Sectors.length : Int)) rfl pv_move ?_
      refine wo_val (.ptr (ix ids 0) g 0 1) rfl (pv_fa (fa_ptr (c := 0) (off := 1) (i := 1) ti31 rfl ti23 rfl)) ?_
      refine wo_val (.sl 5 (List.map rSector a.Sectors)) rfl (pv_load (ld_ptr hI rfl rfl rfl ti23 rfl)) ?_
      refine wo_val (.int .i64 (a.Sectors.length : Int)) rfl (pv_len (len_sl ti23)) ?_
      refine wo_val (.bool (decide ((a.Sectors.length : Int) < (a.Sectors.length : Int)))) rfl (pv_bin rfl rfl rfl) ?_
      refine wo_nil ?_
      refine wr_condF rfl (Int.lt_irrefl _) ?_
      refine wr_exit rfl ?_
      refine wr_seq ?_
      refine wr_seq ?_
      refine wr_region ?_
      refine wo_val (.int .i64 0) rfl pv_assign ?_
      refine wo_nil ?_
      refine wr_block ?_
      refine wr_is [(1, (.ptr (ix ids 0) g 0 0)), (3, (.int .i64 n)), (5, (.int .i64 0))] (.cons rfl (.cons rfl (.cons rfl .nil))) ?_
      refine wf_eachS' (P := Try.prog) a.Configs (fun _ a2 => fun n1 => ref09_Few_b2 a2 n1) (((fun n1 => (eachS (fun _ a3 => fun n2 => ref09_Few_b3 a3 n2) 0 a.Routes n1).bind ((fun n2 => (eachS (fun _ a4 => fun n3 => ref09_Few_b4 a4 n3) 0 a.Airports n2).bind ((fun n3 => .ok (decide (n3 ≤ 300)))))))) : Int → R Bool)
        (fun j1 => fun n1 => fun (fr : Nat → AV) (h : AHeap) => fr = frA [(1, (.ptr (ix ids 0) g 0 0)), (3, (.int .i64 n1)), (5, (.int .i64 (j1 : Int)))] ∧ h = hp h0 ids [(some (.rows g 8 [(rAirspace a)]))]) n ?_ ?_ ?_
      · exact ⟨rfl, rfl⟩
      · rintro j1 a2 ha2 W hW1 n1 fr h ⟨rfl, rfl⟩
        refine wr_mod (m' := ref09_Few_b2 a2 n1) rfl (wr_mod (ref09_Few_b2.eq_1 _ _) ?_)
        refine wr_seq ?_
        refine wr_seq ?_
        refine wr_region ?_
        refine wo_val (.int .i64 (j1 : Int)) rfl pv_move ?_
        refine wo_val (.ptr (ix ids 0) g 0 2) rfl (pv_fa (fa_ptr (c := 0) (off := 2) (i := 2) ti31 rfl ti24 rfl)) ?_
        refine wo_val (.sl 3 (List.map rConfig a.Configs)) rfl (pv_load (ld_ptr hI rfl rfl rfl ti24 rfl)) ?_
        refine wo_val (.int .i64 (a.Configs.length : Int)) rfl (pv_len (len_sl ti24)) ?_
        refine wo_val (.bool (decide ((j1 : Int) < (a.Configs.length : Int)))) rfl (pv_bin rfl rfl rfl) ?_
        refine wo_nil ?_
        refine wr_lim (t := 59) (L := a.Configs) rfl fun hlim2 => ?_
        refine wr_condT rfl (Int.ofNat_lt.2 (lt_of_get ha2)) ?_
        refine wr_skip ?_
        refine wr_seq ?_
        refine wr_block ?_
        refine wr_region ?_
        refine wo_val (.int .i64 n1) rfl pv_move ?_
        refine wo_val (.ptr (ix ids 0) g 0 2) rfl (pv_fa (fa_ptr (c := 0) (off := 2) (i := 2) ti31 rfl ti24 rfl)) ?_
        refine wo_val (.sl 3 (List.map rConfig a.Configs)) rfl (pv_load (ld_ptr hI rfl rfl rfl ti24 rfl)) ?_
        refine wo_val (.int .i64 (j1 : Int)) rfl pv_move ?_
        refine wo_val (.cp (rConfig a2) 0) rfl (pv_ixa (ixa_nat ti24 ti55 rfl ha2)) ?_
        refine wo_val (.cp (rConfig a2) 1) rfl (pv_fa (fa_cp (c := 0) (off := 1) (i := 1) ti55 rfl ti38 rfl)) ?_
        refine wo_val (.sl 1 (List.map rS a2.Names)) rfl (pv_load (ld_cp ti38 rfl)) ?_
        refine wo_val (.int .i64 (a2.Names.length : Int)) rfl (pv_len (len_sl ti38)) ?_
        refine wo_val (.int .i64 (IntKind.wrap .i64 (n1 + (a2.Names.length : Int)))) rfl (pv_bin rfl rfl rfl) ?_
        refine wo_val (.int .i64 (IntKind.wrap .i64 (n1 + (a2.Names.length : Int)))) rfl pv_assign ?_
        refine wo_nil ?_
        refine wr_inBlock ?_
        refine wr_region ?_
        refine wo_val (.int .i64 (j1 : Int)) rfl pv_move ?_
        refine wo_val (.int .i64 (IntKind.wrap .i64 ((j1 : Int) + 1))) rfl (pv_bin rfl rfl rfl) ?_
        refine wo_val (.int .i64 (IntKind.wrap .i64 ((j1 : Int) + 1))) rfl pv_assign ?_
        refine wo_nil ?_
        refine wr_is [(1, (.ptr (ix ids 0) g 0 0)), (3, (.int .i64 (IntKind.wrap .i64 (n1 + (a2.Names.length : Int))))), (5, (.int .i64 ((j1 + 1 : Nat) : Int)))] (.cons rfl (.cons rfl (.cons (inc_ok (lt_of_get ha2) hlim2) .nil))) ?_
        refine wb_S ?_
        refine hW1 (IntKind.wrap .i64 (n1 + (a2.Names.length : Int))) _ _ ?_
        exact ⟨rfl, rfl⟩
      · rintro n1 fr h ⟨rfl, rfl⟩
        refine wr_seq ?_
        refine wr_seq ?_
        refine wr_region ?_
        refine wo_val (.int .i64 (a.Configs.length : Int)) rfl pv_move ?_
        refine wo_val (.ptr (ix ids 0) g 0 2) rfl (pv_fa (fa_ptr (c := 0) (off := 2) (i := 2) ti31 rfl ti24 rfl)) ?_
        refine wo_val (.sl 3 (List.map rConfig a.Configs)) rfl (pv_load (ld_ptr hI rfl rfl rfl ti24 rfl)) ?_
        refine wo_val (.int .i64 (a.Configs.length : Int)) rfl (pv_len (len_sl ti24)) ?_
        refine wo_val (.bool (decide ((a.Configs.length : Int) < (a.Configs.length : Int)))) rfl (pv_bin rfl rfl rfl) ?_
        refine wo_nil ?_
        refine wr_condF rfl (Int.lt_irrefl _) ?_
        refine wr_exit rfl ?_
        refine wr_seq ?_
        refine wr_seq ?_
        refine wr_region ?_
        refine wo_val (.int .i64 0) rfl pv_assign ?_
        refine wo_nil ?_
        refine wr_block ?_
        refine wr_is [(1, (.ptr (ix ids 0) g 0 0)), (3, (.int .i64 n1)), (6, (.int .i64 0))] (.cons rfl (.cons rfl (.cons rfl .nil))) ?_
        refine wf_eachS' (P := Try.prog) a.Routes (fun _ a3 => fun n2 => ref09_Few_b3 a3 n2) (((fun n2 => (eachS (fun _ a4 => fun n3 => ref09_Few_b4 a4 n3) 0 a.Airports n2).bind ((fun n3 => .ok (decide (n3 ≤ 300)))))) : Int → R Bool)
          (fun j2 => fun n2 => fun (fr : Nat → AV) (h : AHeap) => fr = frA [(1, (.ptr (ix ids 0) g 0 0)), (3, (.int .i64 n2)), (6, (.int .i64 (j2 : Int)))] ∧ h = hp h0 ids [(some (.rows g 8 [(rAirspace a)]))]) n1 ?_ ?_ ?_
        · exact ⟨rfl, rfl⟩
        · rintro j2 a3 ha3 W hW2 n2 fr h ⟨rfl, rfl⟩
          refine wr_mod (m' := ref09_Few_b3 a3 n2) rfl (wr_mod (ref09_Few_b3.eq_1 _ _) ?_)
          refine wr_seq ?_
          refine wr_seq ?_
          refine wr_region ?_
          refine wo_val (.int .i64 (j2 : Int)) rfl pv_move ?_
          refine wo_val (.ptr (ix ids 0) g 0 4) rfl (pv_fa (fa_ptr (c := 0) (off := 4) (i := 4) ti31 rfl ti26 rfl)) ?_
          refine wo_val (.sl 7 (List.map rRoute a.Routes)) rfl (pv_load (ld_ptr hI rfl rfl rfl ti26 rfl)) ?_
          refine wo_val (.int .i64 (a.Routes.length : Int)) rfl (pv_len (len_sl ti26)) ?_
          refine wo_val (.bool (decide ((j2 : Int) < (a.Routes.length : Int)))) rfl (pv_bin rfl rfl rfl) ?_
          refine wo_nil ?_
          refine wr_lim (t := 75) (L := a.Routes) rfl fun hlim4 => ?_
          refine wr_condT rfl (Int.ofNat_lt.2 (lt_of_get ha3)) ?_
          refine wr_skip ?_
          refine wr_seq ?_
          refine wr_block ?_
          refine wr_region ?_
          refine wo_val (.int .i64 n2) rfl pv_move ?_
          refine wo_val (.ptr (ix ids 0) g 0 4) rfl (pv_fa (fa_ptr (c := 0) (off := 4) (i := 4) ti31 rfl ti26 rfl)) ?_
          refine wo_val (.sl 7 (List.map rRoute a.Routes)) rfl (pv_load (ld_ptr hI rfl rfl rfl ti26 rfl)) ?_
          refine wo_val (.int .i64 (j2 : Int)) rfl pv_move ?_
          refine wo_val (.cp (rRoute a3) 0) rfl (pv_ixa (ixa_nat ti26 ti59 rfl ha3)) ?_
          refine wo_val (.cp (rRoute a3) 5) rfl (pv_fa (fa_cp (c := 0) (off := 5) (i := 5) ti59 rfl ti38 rfl)) ?_
          refine wo_val (.sl 1 (List.map rS a3.Names)) rfl (pv_load (ld_cp ti38 rfl)) ?_
          refine wo_val (.int .i64 (a3.Names.length : Int)) rfl (pv_len (len_sl ti38)) ?_
          refine wo_val (.int .i64 (IntKind.wrap .i64 (n2 + (a3.Names.length : Int)))) rfl (pv_bin rfl rfl rfl) ?_
          refine wo_val (.int .i64 (IntKind.wrap .i64 (n2 + (a3.Names.length : Int)))) rfl pv_assign ?_
          refine wo_nil ?_
          refine wr_inBlock ?_
          refine wr_region ?_
          refine wo_val (.int .i64 (j2 : Int)) rfl pv_move ?_
          refine wo_val (.int .i64 (IntKind.wrap .i64 ((j2 : Int) + 1))) rfl (pv_bin rfl rfl rfl) ?_
          refine wo_val (.int .i64 (IntKind.wrap .i64 ((j2 : Int) + 1))) rfl pv_assign ?_
          refine wo_nil ?_
          refine wr_is [(1, (.ptr (ix ids 0) g 0 0)), (3, (.int .i64 (IntKind.wrap .i64 (n2 + (a3.Names.length : Int))))), (6, (.int .i64 ((j2 + 1 : Nat) : Int)))] (.cons rfl (.cons rfl (.cons (inc_ok (lt_of_get ha3) hlim4) .nil))) ?_
          refine wb_S ?_
          refine hW2 (IntKind.wrap .i64 (n2 + (a3.Names.length : Int))) _ _ ?_
          exact ⟨rfl, rfl⟩
        · rintro n2 fr h ⟨rfl, rfl⟩
          refine wr_seq ?_
          refine wr_seq ?_
          refine wr_region ?_
          refine wo_val (.int .i64 (a.Routes.length : Int)) rfl pv_move ?_
          refine wo_val (.ptr (ix ids 0) g 0 4) rfl (pv_fa (fa_ptr (c := 0) (off := 4) (i := 4) ti31 rfl ti26 rfl)) ?_
          refine wo_val (.sl 7 (List.map rRoute a.Routes)) rfl (pv_load (ld_ptr hI rfl rfl rfl ti26 rfl)) ?_
          refine wo_val (.int .i64 (a.Routes.length : Int)) rfl (pv_len (len_sl ti26)) ?_
          refine wo_val (.bool (decide ((a.Routes.length : Int) < (a.Routes.length : Int)))) rfl (pv_bin rfl rfl rfl) ?_
          refine wo_nil ?_
          refine wr_condF rfl (Int.lt_irrefl _) ?_
          refine wr_exit rfl ?_
          refine wr_seq ?_
          refine wr_seq ?_
          refine wr_region ?_
          refine wo_val (.int .i64 0) rfl pv_assign ?_
          refine wo_nil ?_
          refine wr_block ?_
          refine wr_is [(1, (.ptr (ix ids 0) g 0 0)), (3, (.int .i64 n2)), (7, (.int .i64 0))] (.cons rfl (.cons rfl (.cons rfl .nil))) ?_
          refine wf_eachS' (P := Try.prog) a.Airports (fun _ a4 => fun n3 => ref09_Few_b4 a4 n3) (((fun n3 => .ok (decide (n3 ≤ 300)))) : Int → R Bool)
            (fun j3 => fun n3 => fun (fr : Nat → AV) (h : AHeap) => fr = frA [(1, (.ptr (ix ids 0) g 0 0)), (3, (.int .i64 n3)), (7, (.int .i64 (j3 : Int)))] ∧ h = hp h0 ids [(some (.rows g 8 [(rAirspace a)]))]) n2 ?_ ?_ ?_
          · exact ⟨rfl, rfl⟩
          · rintro j3 a4 ha4 W hW3 n3 fr h ⟨rfl, rfl⟩
            refine wr_mod (m' := ref09_Few_b4 a4 n3) rfl (wr_mod (ref09_Few_b4.eq_1 _ _) ?_)
            refine wr_seq ?_
            refine wr_seq ?_
            refine wr_region ?_
            refine wo_val (.int .i64 (j3 : Int)) rfl pv_move ?_
            refine wo_val (.ptr (ix ids 0) g 0 5) rfl (pv_fa (fa_ptr (c := 0) (off := 5) (i := 5) ti31 rfl ti27 rfl)) ?_
            refine wo_val (.sl 2 (List.map rAirport a.Airports)) rfl (pv_load (ld_ptr hI rfl rfl rfl ti27 rfl)) ?_
            refine wo_val (.int .i64 (a.Airports.length : Int)) rfl (pv_len (len_sl ti27)) ?_
            refine wo_val (.bool (decide ((j3 : Int) < (a.Airports.length : Int)))) rfl (pv_bin rfl rfl rfl) ?_
            refine wo_nil ?_
            refine wr_lim (t := 91) (L := a.Airports) rfl fun hlim6 => ?_
            refine wr_condT rfl (Int.ofNat_lt.2 (lt_of_get ha4)) ?_
            refine wr_skip ?_
            refine wr_seq ?_
            refine wr_block ?_
            refine wr_region ?_
            refine wo_val (.int .i64 n3) rfl pv_move ?_
            refine wo_val (.ptr (ix ids 0) g 0 5) rfl (pv_fa (fa_ptr (c := 0) (off := 5) (i := 5) ti31 rfl ti27 rfl)) ?_
            refine wo_val (.sl 2 (List.map rAirport a.Airports)) rfl (pv_load (ld_ptr hI rfl rfl rfl ti27 rfl)) ?_
            refine wo_val (.int .i64 (j3 : Int)) rfl pv_move ?_
            refine wo_val (.cp (rAirport a4) 0) rfl (pv_ixa (ixa_nat ti27 ti46 rfl ha4)) ?_
            refine wo_val (.cp (rAirport a4) 1) rfl (pv_fa (fa_cp (c := 0) (off := 1) (i := 1) ti46 rfl ti44 rfl)) ?_
            refine wo_val (.sl 2 (List.map rMode a4.Modes)) rfl (pv_load (ld_cp ti44 rfl)) ?_
            refine wo_val (.int .i64 (a4.Modes.length : Int)) rfl (pv_len (len_sl ti44)) ?_
            refine wo_val (.int .i64 (IntKind.wrap .i64 (n3 + (a4.Modes.length : Int)))) rfl (pv_bin rfl rfl rfl) ?_
            refine wo_val (.int .i64 (IntKind.wrap .i64 (n3 + (a4.Modes.length : Int)))) rfl pv_assign ?_
            refine wo_nil ?_
            refine wr_inBlock ?_
            refine wr_region ?_
            refine wo_val (.int .i64 (j3 : Int)) rfl pv_move ?_
            refine wo_val (.int .i64 (IntKind.wrap .i64 ((j3 : Int) + 1))) rfl (pv_bin rfl rfl rfl) ?_
            refine wo_val (.int .i64 (IntKind.wrap .i64 ((j3 : Int) + 1))) rfl pv_assign ?_
            refine wo_nil ?_
            refine wr_is [(1, (.ptr (ix ids 0) g 0 0)), (3, (.int .i64 (IntKind.wrap .i64 (n3 + (a4.Modes.length : Int))))), (7, (.int .i64 ((j3 + 1 : Nat) : Int)))] (.cons rfl (.cons rfl (.cons (inc_ok (lt_of_get ha4) hlim6) .nil))) ?_
            refine wb_S ?_
            refine hW3 (IntKind.wrap .i64 (n3 + (a4.Modes.length : Int))) _ _ ?_
            exact ⟨rfl, rfl⟩
          · rintro n3 fr h ⟨rfl, rfl⟩
            refine wr_seq ?_
            refine wr_seq ?_
            refine wr_region ?_
            refine wo_val (.int .i64 (a.Airports.length : Int)) rfl pv_move ?_
            refine wo_val (.ptr (ix ids 0) g 0 5) rfl (pv_fa (fa_ptr (c := 0) (off := 5) (i := 5) ti31 rfl ti27 rfl)) ?_
            refine wo_val (.sl 2 (List.map rAirport a.Airports)) rfl (pv_load (ld_ptr hI rfl rfl rfl ti27 rfl)) ?_
            refine wo_val (.int .i64 (a.Airports.length : Int)) rfl (pv_len (len_sl ti27)) ?_
            refine wo_val (.bool (decide ((a.Airports.length : Int) < (a.Airports.length : Int)))) rfl (pv_bin rfl rfl rfl) ?_
            refine wo_nil ?_
            refine wr_condF rfl (Int.lt_irrefl _) ?_
            refine wr_exit rfl ?_
            refine wr_seq ?_
            refine wr_region ?_
            refine wo_val (.int .i64 n3) rfl pv_move ?_
            refine wo_val (.bool (decide (n3 ≤ 300))) rfl (pv_bin rfl rfl rfl) ?_
            refine wo_val (.bool (decide (n3 ≤ 300))) rfl pv_assign ?_
            refine wo_nil ?_
            exact wr_ret (a := (decide (n3 ≤ 300))) (vs := [(.bool (decide (n3 ≤ 300)))]) Try.func11 hI rfl (.same _)

theorem cp_law09_NamesTwice (a : Airspace) (b : Int) : CP Try.prog 7 [(.agg (rAirspace a)), (.int .u8 b)] (law09_NamesTwice a b) (fun (x : Bool) => (AV.bool x)) := by
  refine cp_intro (n := 258) 22 Try.func7 rfl (by decide) rfl rfl fun h0 ids hI => ?_
  refine wr_in (wr_mod (law09_NamesTwice.eq_1 _ _) ?_)
  refine wr_seq ?_
  refine wr_region ?_
  refine wo_box (v := (.agg (rAirspace a))) (j := 0) hI rfl rfl rfl rfl rfl rfl rfl fun g => ?_
  refine wo_val (.bool false) rfl pv_assign ?_
  refine wo_nil ?_
  refine wr_hp [(some (.rows g 8 [(rAirspace a)])), none, none, none, none, none, none, none, none, none, none, none, none, none, none, none, none, none, none, none, none, none] rfl ?_
  refine wr_seq ?_
  refine wr_seq ?_
  refine wr_region ?_
  refine of_call [] rfl rfl rfl rfl ((cp_law09_sane) _) (fun v _ => wu_pan Try.func7 hI) fun r _ => ?_
  refine wo_val (.bool (!r)) rfl (pv_un rfl) ?_
  refine wo_nil ?_
  refine wf_itebn rfl (fun hc => ?_) (fun hc => ?_)
  · refine wr_skip ?_
    refine wr_seq ?_
    refine wr_seq ?_
    refine wr_region ?_
    refine wo_val (.agg (rAirspace a)) rfl (pv_load (ld_ptr hI rfl rfl rfl ti31 rfl)) ?_
    refine of_call [(.agg (rAirspace a))] rfl rfl rfl rfl ((cp_ref09_Few a) _) (fun v _ => wu_pan Try.func7 hI) fun r1 _ => ?_
    refine wo_val (.bool (!r1)) rfl (pv_un rfl) ?_
    refine wo_nil ?_
    refine wf_itebn rfl (fun hc1 => ?_) (fun hc1 => ?_)
    · refine wr_skip ?_
      refine wr_seq ?_
      refine wr_seq ?_
      refine wr_region ?_
      refine wo_val (.agg (rAirspace a)) rfl (pv_load (ld_ptr hI rfl rfl rfl ti31 rfl)) ?_
      refine of_call [(.agg (rAirspace a))] rfl rfl rfl rfl ((cp_names_Resolve a) _) (fun v _ => wu_pan Try.func7 hI) fun r2 _ => ?_
      refine wo_val (.tup [(.agg (rAirspace r2.1)), (.int .i64 r2.2)]) rfl pv_move ?_
      refine wo_val (.agg (rAirspace r2.1)) rfl (pv_ext rfl) ?_
      refine wo_val (.int .i64 r2.2) rfl (pv_ext rfl) ?_
      refine wo_alloc (j := 1) hI rfl rfl rfl rfl ti31 rfl fun g1 => ?_
      refine wo_store (st_ptr hI rfl rfl rfl rfl ti31 rfl rfl rfl rfl rfl) ?_
      refine wo_val (.int .i64 r2.2) rfl pv_assign ?_
      refine wo_nil ?_
      refine wr_hp [(some (.rows g 8 [(rAirspace a)])), (some (.rows g1 8 [(rAirspace r2.1)])), none, none, none, none, none, none, none, none, none, none, none, none, none, none, none, none, none, none, none, none] rfl ?_
      refine wr_seq ?_
      refine wr_region ?_
      refine wo_val (.int .i64 r2.2) rfl pv_move ?_
      refine wo_val (.bool (r2.2 != 0)) rfl (pv_bin rfl rfl rfl) ?_
      refine wo_nil ?_
      refine wf_iteb rfl (fun hc2 => ?_) (fun hc2 => ?_)
      · refine wr_seq ?_
        refine wr_region ?_
        refine wo_val (.bool true) rfl pv_assign ?_
        refine wo_nil ?_
        exact wr_ret (a := true) (vs := [(.bool true)]) Try.func7 hI rfl (.same _)
      · refine wr_skip ?_
        refine wr_seq ?_
        refine wr_region ?_
        refine wo_val (.int .u8 b) rfl pv_move ?_
        refine wo_val (.int .i64 (IntKind.wrap .i64 b)) rfl (pv_conv (cv_int ti5 ti3)) ?_
        refine wo_val (.int .i64 (IntKind.wrap .i64 b)) rfl pv_assign ?_
        refine wo_nil ?_
        refine wr_seq ?_
        refine wr_region ?_
        refine wo_val .emp rfl pv_assign ?_
        refine wo_nil ?_
        refine wr_seq ?_
        refine wr_seq ?_
        refine wr_region ?_
        refine wo_val (.ptr (ix ids 0) g 0 0) rfl (pv_fa (fa_ptr (c := 0) (off := 0) (i := 0) ti31 rfl ti22 rfl)) ?_
        refine wo_val (.sl 2 (List.map rVolume a.Volumes)) rfl (pv_load (ld_ptr hI rfl rfl rfl ti22 rfl)) ?_
        refine wo_val (.int .i64 (a.Volumes.length : Int)) rfl (pv_len (len_sl ti22)) ?_
        refine wo_val (.int .i64 (a.Volumes.length : Int)) rfl pv_assign ?_
        refine wo_nil ?_
        refine wr_seq ?_
        refine wr_region ?_
        refine wo_val (.int .i64 (a.Volumes.length : Int)) rfl pv_move ?_
        refine wo_val (.bool (decide ((a.Volumes.length : Int) > 0))) rfl (pv_bin rfl rfl rfl) ?_
        refine wo_nil ?_
        refine wf_join (fun x => law09_NamesTwice_j12 a b r x) (fun x => fun (fr : Nat → AV) (h : AHeap) => ∃ (v8 : AV), ∃ (g11 : Nat), OwnV v8 (ix ids 4) g11 x.length ∧ fr = frA [(2, (.ptr (ix ids 0) g 0 0)), (7, (.int .i64 (IntKind.wrap .i64 b))), (8, v8)] ∧ h = hp h0 ids [(some (.rows g 8 [(rAirspace a)])), none, none, none, (ownO v8 g11 8 (List.map rAirspace x)), none, none, none, none, none, none, none, none, none, none, none, none, none, none, none, none, none]) ?_ fun hJ11 => ?_
        · rintro x fr h ⟨v8, g11, vH8, rfl, rfl⟩
          refine wr_mod (law09_NamesTwice_j12.eq_1 _ _ _ _) ?_
          refine wr_seq ?_
          refine wr_seq ?_
          refine wr_region ?_
          refine wo_val (.ptr (ix ids 0) g 0 1) rfl (pv_fa (fa_ptr (c := 0) (off := 1) (i := 1) ti31 rfl ti23 rfl)) ?_
          refine wo_val (.sl 5 (List.map rSector a.Sectors)) rfl (pv_load (ld_ptr hI rfl rfl rfl ti23 rfl)) ?_
          refine wo_val (.int .i64 (a.Sectors.length : Int)) rfl (pv_len (len_sl ti23)) ?_
          refine wo_val (.int .i64 (a.Sectors.length : Int)) rfl pv_assign ?_
          refine wo_nil ?_
          refine wr_seq ?_
          refine wr_region ?_
          refine wo_val (.int .i64 (a.Sectors.length : Int)) rfl pv_move ?_
          refine wo_val (.bool (decide ((a.Sectors.length : Int) > 0))) rfl (pv_bin rfl rfl rfl) ?_
          refine wo_nil ?_
          refine wf_join (fun x1 => law09_NamesTwice_j11 a b r x1) (fun x1 => fun (fr : Nat → AV) (h : AHeap) => ∃ (v12 : AV), ∃ (g16 : Nat), OwnV v12 (ix ids 4) g16 x1.length ∧ fr = frA [(2, (.ptr (ix ids 0) g 0 0)), (7, (.int .i64 (IntKind.wrap .i64 b))), (8, v12)] ∧ h = hp h0 ids [(some (.rows g 8 [(rAirspace a)])), none, none, none, (ownO v12 g16 8 (List.map rAirspace x1)), none, none, none, none, none, none, none, none, none, none, none, none, none, none, none, none, none]) ?_ fun hJ10 => ?_
          · rintro x1 fr h ⟨v12, g16, vH12, rfl, rfl⟩
            refine wr_mod (law09_NamesTwice_j11.eq_1 _ _ _ _) ?_
            refine wr_seq ?_
            refine wr_seq ?_
            refine wr_region ?_
            refine wo_val (.ptr (ix ids 0) g 0 2) rfl (pv_fa (fa_ptr (c := 0) (off := 2) (i := 2) ti31 rfl ti24 rfl)) ?_
            refine wo_val (.sl 3 (List.map rConfig a.Configs)) rfl (pv_load (ld_ptr hI rfl rfl rfl ti24 rfl)) ?_
            refine wo_val (.int .i64 (a.Configs.length : Int)) rfl (pv_len (len_sl ti24)) ?_
            refine wo_val (.int .i64 (a.Configs.length : Int)) rfl pv_assign ?_
            refine wo_nil ?_
            refine wr_seq ?_
            refine wr_region ?_
            refine wo_val (.int .i64 (a.Configs.length : Int)) rfl pv_move ?_
            refine wo_val (.bool (decide ((a.Configs.length : Int) > 0))) rfl (pv_bin rfl rfl rfl) ?_
            refine wo_nil ?_
            refine wf_join (fun x2 => law09_NamesTwice_j10 a b r x2) (fun x2 => fun (fr : Nat → AV) (h : AHeap) => ∃ (v16 : AV), ∃ (g21 : Nat), OwnV v16 (ix ids 4) g21 x2.length ∧ fr = frA [(2, (.ptr (ix ids 0) g 0 0)), (7, (.int .i64 (IntKind.wrap .i64 b))), (8, v16)] ∧ h = hp h0 ids [(some (.rows g 8 [(rAirspace a)])), none, none, none, (ownO v16 g21 8 (List.map rAirspace x2)), none, none, none, none, none, none, none, none, none, none, none, none, none, none, none, none, none]) ?_ fun hJ9 => ?_
            · rintro x2 fr h ⟨v16, g21, vH16, rfl, rfl⟩
              refine wr_mod (law09_NamesTwice_j10.eq_1 _ _ _ _) ?_
              refine wr_seq ?_
              refine wr_seq ?_
              refine wr_region ?_
              refine wo_val (.ptr (ix ids 0) g 0 4) rfl (pv_fa (fa_ptr (c := 0) (off := 4) (i := 4) ti31 rfl ti26 rfl)) ?_
              refine wo_val (.sl 7 (List.map rRoute a.Routes)) rfl (pv_load (ld_ptr hI rfl rfl rfl ti26 rfl)) ?_
              refine wo_val (.int .i64 (a.Routes.length : Int)) rfl (pv_len (len_sl ti26)) ?_
              refine wo_val (.int .i64 (a.Routes.length : Int)) rfl pv_assign ?_
              refine wo_nil ?_
              refine wr_seq ?_
              refine wr_region ?_
              refine wo_val (.int .i64 (a.Routes.length : Int)) rfl pv_move ?_
              refine wo_val (.bool (decide ((a.Routes.length : Int) > 0))) rfl (pv_bin rfl rfl rfl) ?_
              refine wo_nil ?_
              refine wf_join (fun x3 => law09_NamesTwice_j9 a b r x3) (fun x3 => fun (fr : Nat → AV) (h : AHeap) => ∃ (v20 : AV), ∃ (g26 : Nat), OwnV v20 (ix ids 4) g26 x3.length ∧ fr = frA [(2, (.ptr (ix ids 0) g 0 0)), (7, (.int .i64 (IntKind.wrap .i64 b))), (8, v20)] ∧ h = hp h0 ids [(some (.rows g 8 [(rAirspace a)])), none, none, none, (ownO v20 g26 8 (List.map rAirspace x3)), none, none, none, none, none, none, none, none, none, none, none, none, none, none, none, none, none]) ?_ fun hJ8 => ?_
              · rintro x3 fr h ⟨v20, g26, vH20, rfl, rfl⟩
                refine wr_mod (law09_NamesTwice_j9.eq_1 _ _ _ _) ?_
                refine wr_seq ?_
                refine wr_seq ?_
                refine wr_region ?_
                refine wo_val (.ptr (ix ids 0) g 0 3) rfl (pv_fa (fa_ptr (c := 0) (off := 3) (i := 3) ti31 rfl ti25 rfl)) ?_
                refine wo_val (.sl 5 (List.map rSegment a.Segments)) rfl (pv_load (ld_ptr hI rfl rfl rfl ti25 rfl)) ?_
                refine wo_val (.int .i64 (a.Segments.length : Int)) rfl (pv_len (len_sl ti25)) ?_
                refine wo_val (.int .i64 (a.Segments.length : Int)) rfl pv_assign ?_
                refine wo_nil ?_
                refine wr_seq ?_
                refine wr_region ?_
                refine wo_val (.int .i64 (a.Segments.length : Int)) rfl pv_move ?_
                refine wo_val (.bool (decide ((a.Segments.length : Int) > 0))) rfl (pv_bin rfl rfl rfl) ?_
                refine wo_nil ?_
                refine wf_join (fun x4 => law09_NamesTwice_j8 a b r x4) (fun x4 => fun (fr : Nat → AV) (h : AHeap) => ∃ (v24 : AV), ∃ (g31 : Nat), OwnV v24 (ix ids 4) g31 x4.length ∧ fr = frA [(2, (.ptr (ix ids 0) g 0 0)), (7, (.int .i64 (IntKind.wrap .i64 b))), (8, v24)] ∧ h = hp h0 ids [(some (.rows g 8 [(rAirspace a)])), none, none, none, (ownO v24 g31 8 (List.map rAirspace x4)), none, none, none, none, none, none, none, none, none, none, none, none, none, none, none, none, none]) ?_ fun hJ7 => ?_
                · rintro x4 fr h ⟨v24, g31, vH24, rfl, rfl⟩
                  refine wr_mod (law09_NamesTwice_j8.eq_1 _ _ _ _) ?_
                  refine wr_seq ?_
                  refine wr_seq ?_
                  refine wr_region ?_
                  refine wo_val (.ptr (ix ids 0) g 0 6) rfl (pv_fa (fa_ptr (c := 0) (off := 6) (i := 6) ti31 rfl ti28 rfl)) ?_
                  refine wo_val (.sl 4 (List.map rClass a.Classes)) rfl (pv_load (ld_ptr hI rfl rfl rfl ti28 rfl)) ?_
                  refine wo_val (.int .i64 (a.Classes.length : Int)) rfl (pv_len (len_sl ti28)) ?_
                  refine wo_val (.int .i64 (a.Classes.length : Int)) rfl pv_assign ?_
                  refine wo_nil ?_
                  refine wr_seq ?_
                  refine wr_region ?_
                  refine wo_val (.int .i64 (a.Classes.length : Int)) rfl pv_move ?_
                  refine wo_val (.bool (decide ((a.Classes.length : Int) > 0))) rfl (pv_bin rfl rfl rfl) ?_
                  refine wo_nil ?_
                  refine wf_join (fun x5 => law09_NamesTwice_j7 a b r x5) (fun x5 => fun (fr : Nat → AV) (h : AHeap) => ∃ (v33 : AV), ∃ (g41 : Nat), OwnV v33 (ix ids 4) g41 x5.length ∧ fr = frA [(2, (.ptr (ix ids 0) g 0 0)), (7, (.int .i64 (IntKind.wrap .i64 b))), (8, v33)] ∧ h = hp h0 ids [(some (.rows g 8 [(rAirspace a)])), none, none, none, (ownO v33 g41 8 (List.map rAirspace x5)), none, none, none, none, none, none, none, none, none, none, none, none, none, none, none, none, none]) ?_ fun hJ6 => ?_
                  · rintro x5 fr h ⟨v33, g41, vH33, rfl, rfl⟩
                    refine wr_mod (law09_NamesTwice_j7.eq_1 _ _ _ _) ?_
                    refine wr_seq ?_
                    refine wr_seq ?_
                    refine wr_region ?_
                    refine wo_val (.ptr (ix ids 0) g 0 5) rfl (pv_fa (fa_ptr (c := 0) (off := 5) (i := 5) ti31 rfl ti27 rfl)) ?_
                    refine wo_val (.sl 2 (List.map rAirport a.Airports)) rfl (pv_load (ld_ptr hI rfl rfl rfl ti27 rfl)) ?_
                    refine wo_val (.int .i64 (a.Airports.length : Int)) rfl (pv_len (len_sl ti27)) ?_
                    refine wo_val (.int .i64 (a.Airports.length : Int)) rfl pv_assign ?_
                    refine wo_nil ?_
                    refine wr_seq ?_
                    refine wr_region ?_
                    refine wo_val (.int .i64 (a.Airports.length : Int)) rfl pv_move ?_
                    refine wo_val (.bool (decide ((a.Airports.length : Int) > 0))) rfl (pv_bin rfl rfl rfl) ?_
                    refine wo_nil ?_
                    refine wf_join (fun x6 => law09_NamesTwice_j6 r x6) (fun x6 => fun (fr : Nat → AV) (h : AHeap) => ∃ (v50 : AV), ∃ (g64 : Nat), OwnV v50 (ix ids 4) g64 x6.length ∧ fr = frA [(8, v50)] ∧ h = hp h0 ids [none, none, none, none, (ownO v50 g64 8 (List.map rAirspace x6)), none, none, none, none, none, none, none, none, none, none, none, none, none, none, none, none, none]) ?_ fun hJ5 => ?_
                    · rintro x6 fr h ⟨v50, g64, vH53, rfl, rfl⟩
                      refine wr_mod (law09_NamesTwice_j6.eq_1 _ _) ?_
                      refine wr_seq ?_
                      refine wr_seq ?_
                      refine wr_region ?_
                      refine wo_val v50 rfl pv_move ?_
                      refine wo_val (.int .i64 (x6.length : Int)) rfl (pv_len (OwnV.len vH53 ti64)) ?_
                      refine wo_val (.int .i64 0) rfl pv_move ?_
                      refine wo_nil ?_
                      refine wr_block ?_
                      refine wr_limo (t := 8) rfl vH53 fun hlim => ?_
                      refine wr_is [(244, v50), (245, (.int .i64 (x6.length : Int))), (246, (.int .i64 0))] (.cons rfl (.cons rfl (.cons rfl .nil))) ?_
                      refine wf_each' (P := Try.prog) x6 (fun j _ => fun x8 => law09_NamesTwice_b1 j x8) ((alt (fun x8 => .ok true) (fun r => .ok r)) : ((List Airspace) ⊕ Bool) → R Bool)
                        (fun j => fun x8 => fun (fr : Nat → AV) (h : AHeap) => ∃ (v51 : AV), ∃ (g65 : Nat), OwnV v51 (ix ids 4) g65 x8.length ∧ fr = frA [(244, v51), (245, (.int .i64 (x6.length : Int))), (246, (.int .i64 (j : Int)))] ∧ h = hp h0 ids [none, none, none, none, (ownO v51 g65 8 (List.map rAirspace x8)), none, none, none, none, none, none, none, none, none, none, none, none, none, none, none, none, none]) x6 ?_ ?_ ?_
                      · exact ⟨v50, g64, vH53, rfl, rfl⟩
                      · rintro j a17 ha17 W hW x8 fr h ⟨v51, g65, vH54, rfl, rfl⟩
                        refine wr_mod (m' := law09_NamesTwice_b1 j x8) rfl (wr_mod (law09_NamesTwice_b1.eq_1 _ _) ?_)
                        refine wr_seq ?_
                        refine wr_region ?_
                        refine wo_val (.bool (decide ((j : Int) < (x6.length : Int)))) rfl (pv_bin rfl rfl rfl) ?_
                        refine wo_nil ?_
                        refine wr_seq ?_
                        refine wr_condT rfl (Int.ofNat_lt.2 (lt_of_get ha17)) ?_
                        refine wr_skip ?_
                        refine wr_seq ?_
                        refine wr_block ?_
                        refine wr_seq ?_
                        refine wr_region ?_
                        refine of_idx fun a18 hz35 hx17 => ?_
                        refine wo_val (.ptr (ix ids 4) g65 (j : Int).toNat 0) rfl (pv_ixa (ixa_own hI rfl vH54 rfl ti64 ti31 rfl hz35 hx17)) ?_
                        refine wo_val (.agg (rAirspace a18)) rfl (pv_load (ld_own hI rfl vH54 rfl hx17 ti31 rfl)) ?_
                        refine wo_alloc (j := 20) hI rfl rfl rfl rfl ti31 rfl fun g66 => ?_
                        refine wo_store (st_ptr hI rfl rfl rfl rfl ti31 rfl rfl rfl rfl rfl) ?_
                        refine wo_nil ?_
                        refine wr_hp [none, none, none, none, (ownO v51 g65 8 (List.map rAirspace x8)), none, none, none, none, none, none, none, none, none, none, none, none, none, none, none, (some (.rows g66 8 [(rAirspace a18)])), none] rfl ?_
                        refine wr_seq ?_
                        refine wr_region ?_
                        refine wo_val (.agg (rAirspace a18)) rfl (pv_load (ld_ptr hI rfl rfl rfl ti31 rfl)) ?_
                        refine of_call [(.agg (rAirspace a18))] rfl rfl rfl rfl ((cp_names_Resolve a18) _) (fun v _ => wu_pan Try.func7 hI) fun r3 _ => ?_
                        refine wo_val (.tup [(.agg (rAirspace r3.1)), (.int .i64 r3.2)]) rfl pv_move ?_
                        refine wo_val (.agg (rAirspace r3.1)) rfl (pv_ext rfl) ?_
                        refine wo_val (.int .i64 r3.2) rfl (pv_ext rfl) ?_
                        refine wo_alloc (j := 21) hI rfl rfl rfl rfl ti31 rfl fun g67 => ?_
                        refine wo_store (st_ptr hI rfl rfl rfl rfl ti31 rfl rfl rfl rfl rfl) ?_
                        refine wo_val (.int .i64 r3.2) rfl pv_assign ?_
                        refine wo_nil ?_
                        refine wr_hp [none, none, none, none, (ownO v51 g65 8 (List.map rAirspace x8)), none, none, none, none, none, none, none, none, none, none, none, none, none, none, none, (some (.rows g66 8 [(rAirspace a18)])), (some (.rows g67 8 [(rAirspace r3.1)]))] rfl ?_
                        refine wr_seq ?_
                        refine wr_region ?_
                        refine wo_val (.int .i64 r3.2) rfl pv_move ?_
                        refine wo_val (.bool (r3.2 != 91)) rfl (pv_bin rfl rfl rfl) ?_
                        refine wo_nil ?_
                        refine wf_iteb rfl (fun hc10 => ?_) (fun hc10 => ?_)
                        · refine wr_seq ?_
                          refine wr_region ?_
                          refine wo_val (.bool false) rfl pv_assign ?_
                          refine wo_nil ?_
                          refine wx_each ?_
                          refine w_altr ?_
                          exact wr_ret (a := false) (vs := [(.bool false)]) Try.func7 hI rfl (.same _)
                        · refine wr_skip ?_
                          refine wr_inBlock ?_
                          refine wr_region ?_
                          refine wo_val (.int .i64 (IntKind.wrap .i64 ((j : Int) + 1))) rfl (pv_bin rfl rfl rfl) ?_
                          refine wo_val (.int .i64 (IntKind.wrap .i64 ((j : Int) + 1))) rfl pv_move ?_
                          refine wo_nil ?_
                          refine wr_drop [none, none, none, none, (ownO v51 g65 8 (List.map rAirspace x8)), none, none, none, none, none, none, none, none, none, none, none, none, none, none, none, none, none] hI rfl (.keep (.keep (.keep (.keep (.keep (.keep (.keep (.keep (.keep (.keep (.keep (.keep (.keep (.keep (.keep (.keep (.keep (.keep (.keep (.keep (.drop (.drop .nil)))))))))))))))))))))) ?_
                          refine wr_is [(244, v51), (245, (.int .i64 (x6.length : Int))), (246, (.int .i64 ((j + 1 : Nat) : Int)))] (.cons rfl (.cons rfl (.cons (inc_ok (lt_of_get ha17) hlim) .nil))) ?_
                          refine wb_each ?_
                          refine hW x8 _ _ ?_
                          exact ⟨v51, g65, vH54, rfl, rfl⟩
                      · rintro x8 fr h ⟨v51, g65, vH54, rfl, rfl⟩
                        refine wr_mod (alt_inl _ _ _) ?_
                        refine wr_seq ?_
                        refine wr_region ?_
                        refine wo_val (.bool (decide ((x6.length : Int) < (x6.length : Int)))) rfl (pv_bin rfl rfl rfl) ?_
                        refine wo_nil ?_
                        refine wr_seq ?_
                        refine wr_condF rfl (Int.lt_irrefl _) ?_
                        refine wr_exit rfl ?_
                        refine wr_seq ?_
                        refine wr_region ?_
                        refine wo_val (.bool true) rfl pv_assign ?_
                        refine wo_nil ?_
                        exact wr_ret (a := true) (vs := [(.bool true)]) Try.func7 hI rfl (.same _)
                    · refine wf_ite rfl (fun hc9 => ?_) (fun hc9 => ?_)
                      · refine wr_seq ?_
                        refine wf_join (π := Unit) (fun _ => law09_NamesTwice_j5 a b r x5) (fun _ => fun (fr : Nat → AV) (h : AHeap) => ∃ (g46 : Nat), ∃ (g47 : Nat), fr = frA [(2, (.ptr (ix ids 0) g 0 0)), (7, (.int .i64 (IntKind.wrap .i64 b))), (8, v33), (21, (.int .i64 (a.Airports.length : Int))), (22, (.ptr (ix ids 15) g46 0 0)), (23, (.ptr (ix ids 16) g47 0 0))] ∧ h = hp h0 ids [(some (.rows g 8 [(rAirspace a)])), none, none, none, (ownO v33 g41 8 (List.map rAirspace x5)), none, none, none, none, none, none, none, none, none, none, (some (.rows g46 8 [(rAirspace a)])), (some (.rows g47 8 [(rAirspace a)])), none, none, none, none, none]) ?_ fun hJ4 => ?_
                        · rintro _ fr h ⟨g46, g47, rfl, rfl⟩
                          refine wr_mod (law09_NamesTwice_j5.eq_1 _ _ _ _) ?_
                          refine wr_seq ?_
                          refine wf_join (fun l2 => law09_NamesTwice_j4 a b r x5 l2) (fun l2 => fun (fr : Nat → AV) (h : AHeap) => ∃ (v40 : AV), ∃ (g54 : Nat), OwnV v40 (ix ids 17) g54 l2.length ∧ fr = frA [(2, (.ptr (ix ids 0) g 0 0)), (7, (.int .i64 (IntKind.wrap .i64 b))), (8, v33), (21, (.int .i64 (a.Airports.length : Int))), (22, (.ptr (ix ids 15) g46 0 0)), (23, (.ptr (ix ids 16) g47 0 0))] ∧ h = hp h0 ids [(some (.rows g 8 [(rAirspace a)])), none, none, none, (ownO v33 g41 8 (List.map rAirspace x5)), none, none, none, none, none, none, none, none, none, none, (some (.rows g46 8 [[(.sl 2 (List.map rVolume a.Volumes)), (.sl 5 (List.map rSector a.Sectors)), (.sl 3 (List.map rConfig a.Configs)), (.sl 5 (List.map rSegment a.Segments)), (.sl 7 (List.map rRoute a.Routes)), v40, (.sl 4 (List.map rClass a.Classes)), (.sl 8 (List.map rRule a.Rules))]])), (some (.rows g47 8 [(rAirspace a)])), (ownO v40 g54 2 (List.map rAirport l2)), none, none, none, none]) ?_ fun hJ3 => ?_
                          · rintro l2 fr h ⟨v40, g54, vH40, rfl, rfl⟩
                            refine wr_mod (law09_NamesTwice_j4.eq_1 _ _ _ _ _) ?_
                            refine wr_seq ?_
                            refine wr_region ?_
                            refine wo_bs0 rfl ti27 ti46 ?_
                            refine wo_val (.ptr (ix ids 0) g 0 5) rfl (pv_fa (fa_ptr (c := 0) (off := 5) (i := 5) ti31 rfl ti27 rfl)) ?_
                            refine wo_val (.sl 2 (List.map rAirport a.Airports)) rfl (pv_load (ld_ptr hI rfl rfl rfl ti27 rfl)) ?_
                            refine of_need fun hl28 => ?_
                            refine wo_append (e := rAirport) (L := ([] : List Airport)) (L2 := a.Airports) (v := .emp) (g := 0) (st := 2) (j := 18) hI rfl rfl rfl rfl .nil rfl (src_sl rfl) ti27 ti27 rfl ti46 rfl rfl rfl (by simpa using hl28) fun v41 g55 vH41 => ?_
                            refine wo_val (.ptr (ix ids 16) g47 0 5) rfl (pv_fa (fa_ptr (c := 0) (off := 5) (i := 5) ti31 rfl ti27 rfl)) ?_
                            refine wo_store (st_ptrO vH41 hI rfl rfl rfl rfl ti27 rfl rfl rfl) ?_
                            refine wo_nil ?_
                            refine wr_hp [(some (.rows g 8 [(rAirspace a)])), none, none, none, (ownO v33 g41 8 (List.map rAirspace x5)), none, none, none, none, none, none, none, none, none, none, (some (.rows g46 8 [[(.sl 2 (List.map rVolume a.Volumes)), (.sl 5 (List.map rSector a.Sectors)), (.sl 3 (List.map rConfig a.Configs)), (.sl 5 (List.map rSegment a.Segments)), (.sl 7 (List.map rRoute a.Routes)), v40, (.sl 4 (List.map rClass a.Classes)), (.sl 8 (List.map rRule a.Rules))]])), (some (.rows g47 8 [[(.sl 2 (List.map rVolume a.Volumes)), (.sl 5 (List.map rSector a.Sectors)), (.sl 3 (List.map rConfig a.Configs)), (.sl 5 (List.map rSegment a.Segments)), (.sl 7 (List.map rRoute a.Routes)), v41, (.sl 4 (List.map rClass a.Classes)), (.sl 8 (List.map rRule a.Rules))]])), (ownO v40 g54 2 (List.map rAirport l2)), (ownO v41 g55 2 (List.map rAirport a.Airports)), none, none, none] rfl ?_
                            refine wr_seq ?_
                            refine wf_join (fun l3 => law09_NamesTwice_j3 a r x5 l2 l3) (fun l3 => fun (fr : Nat → AV) (h : AHeap) => ∃ (v48 : AV), ∃ (g62 : Nat), OwnV v48 (ix ids 18) g62 l3.length ∧ fr = frA [(8, v33), (22, (.ptr (ix ids 15) g46 0 0)), (23, (.ptr (ix ids 16) g47 0 0))] ∧ h = hp h0 ids [none, none, none, none, (ownO v33 g41 8 (List.map rAirspace x5)), none, none, none, none, none, none, none, none, none, none, (some (.rows g46 8 [[(.sl 2 (List.map rVolume a.Volumes)), (.sl 5 (List.map rSector a.Sectors)), (.sl 3 (List.map rConfig a.Configs)), (.sl 5 (List.map rSegment a.Segments)), (.sl 7 (List.map rRoute a.Routes)), v40, (.sl 4 (List.map rClass a.Classes)), (.sl 8 (List.map rRule a.Rules))]])), (some (.rows g47 8 [[(.sl 2 (List.map rVolume a.Volumes)), (.sl 5 (List.map rSector a.Sectors)), (.sl 3 (List.map rConfig a.Configs)), (.sl 5 (List.map rSegment a.Segments)), (.sl 7 (List.map rRoute a.Routes)), v48, (.sl 4 (List.map rClass a.Classes)), (.sl 8 (List.map rRule a.Rules))]])), (ownO v40 g54 2 (List.map rAirport l2)), (ownO v48 g62 2 (List.map rAirport l3)), none, none, none]) ?_ fun hJ2 => ?_
                            · rintro l3 fr h ⟨v48, g62, vH51, rfl, rfl⟩
                              refine wr_mod (law09_NamesTwice_j3.eq_1 _ _ _ _ _) ?_
                              refine wr_region ?_
                              refine wo_val v33 rfl pv_move ?_
                              refine wo_val (.agg [(.sl 2 (List.map rVolume a.Volumes)), (.sl 5 (List.map rSector a.Sectors)), (.sl 3 (List.map rConfig a.Configs)), (.sl 5 (List.map rSegment a.Segments)), (.sl 7 (List.map rRoute a.Routes)), v40, (.sl 4 (List.map rClass a.Classes)), (.sl 8 (List.map rRule a.Rules))]) rfl (pv_load (ld_ptr hI rfl rfl rfl ti31 rfl)) ?_
                              refine wo_val (.agg [(.sl 2 (List.map rVolume a.Volumes)), (.sl 5 (List.map rSector a.Sectors)), (.sl 3 (List.map rConfig a.Configs)), (.sl 5 (List.map rSegment a.Segments)), (.sl 7 (List.map rRoute a.Routes)), v48, (.sl 4 (List.map rClass a.Classes)), (.sl 8 (List.map rRule a.Rules))]) rfl (pv_load (ld_ptr hI rfl rfl rfl ti31 rfl)) ?_
                              refine wo_frz (h2 := hp h0 ids [none, none, none, none, (ownO v33 g41 8 (List.map rAirspace x5)), none, none, none, none, none, none, none, none, none, none, none, none, none, none, none, none, none]) [(239, v33), (240, (.agg (rAirspace ({ Volumes := a.Volumes, Sectors := a.Sectors, Configs := a.Configs, Segments := a.Segments, Routes := a.Routes, Airports := l2, Classes := a.Classes, Rules := a.Rules } : Airspace)))), (241, (.agg (rAirspace ({ Volumes := a.Volumes, Sectors := a.Sectors, Configs := a.Configs, Segments := a.Segments, Routes := a.Routes, Airports := l3, Classes := a.Classes, Rules := a.Rules } : Airspace))))] (Drops.sub (.keep (.keep (.keep (.keep (.keep (.keep (.keep (.keep (.keep (.keep (.keep (.keep (.keep (.keep (.keep (.drop (.drop (.drop (.drop (.keep (.keep (.keep .nil)))))))))))))))))))))) hI.len) (.cons (.same _) (.cons (.aggL (.cons (.same _) (.cons (.same _) (.cons (.same _) (.cons (.same _) (.cons (.same _) (.cons (own_fz vH40 (hI.at rfl rfl) (hI.at rfl rfl) (fun x => ok_Airport x)) (.cons (.same _) (.cons (.same _) .nil))))))))) (.cons (.aggL (.cons (.same _) (.cons (.same _) (.cons (.same _) (.cons (.same _) (.cons (.same _) (.cons (own_fz vH51 (hI.at rfl rfl) (hI.at rfl rfl) (fun x => ok_Airport x)) (.cons (.same _) (.cons (.same _) .nil))))))))) .nil))) rfl rfl ?_
                              refine wo_bsC (e := rAirspace) (L := [({ Volumes := a.Volumes, Sectors := a.Sectors, Configs := a.Configs, Segments := a.Segments, Routes := a.Routes, Airports := l2, Classes := a.Classes, Rules := a.Rules } : Airspace), ({ Volumes := a.Volumes, Sectors := a.Sectors, Configs := a.Configs, Segments := a.Segments, Routes := a.Routes, Airports := l3, Classes := a.Classes, Rules := a.Rules } : Airspace)]) (st := 8) (rows := [[(.sl 2 (List.map rVolume ({ Volumes := a.Volumes, Sectors := a.Sectors, Configs := a.Configs, Segments := a.Segments, Routes := a.Routes, Airports := l2, Classes := a.Classes, Rules := a.Rules } : Airspace).Volumes)), (.sl 5 (List.map rSector ({ Volumes := a.Volumes, Sectors := a.Sectors, Configs := a.Configs, Segments := a.Segments, Routes := a.Routes, Airports := l2, Classes := a.Classes, Rules := a.Rules } : Airspace).Sectors)), (.sl 3 (List.map rConfig ({ Volumes := a.Volumes, Sectors := a.Sectors, Configs := a.Configs, Segments := a.Segments, Routes := a.Routes, Airports := l2, Classes := a.Classes, Rules := a.Rules } : Airspace).Configs)), (.sl 5 (List.map rSegment ({ Volumes := a.Volumes, Sectors := a.Sectors, Configs := a.Configs, Segments := a.Segments, Routes := a.Routes, Airports := l2, Classes := a.Classes, Rules := a.Rules } : Airspace).Segments)), (.sl 7 (List.map rRoute ({ Volumes := a.Volumes, Sectors := a.Sectors, Configs := a.Configs, Segments := a.Segments, Routes := a.Routes, Airports := l2, Classes := a.Classes, Rules := a.Rules } : Airspace).Routes)), (.sl 2 (List.map rAirport ({ Volumes := a.Volumes, Sectors := a.Sectors, Configs := a.Configs, Segments := a.Segments, Routes := a.Routes, Airports := l2, Classes := a.Classes, Rules := a.Rules } : Airspace).Airports)), (.sl 4 (List.map rClass ({ Volumes := a.Volumes, Sectors := a.Sectors, Configs := a.Configs, Segments := a.Segments, Routes := a.Routes, Airports := l2, Classes := a.Classes, Rules := a.Rules } : Airspace).Classes)), (.sl 8 (List.map rRule ({ Volumes := a.Volumes, Sectors := a.Sectors, Configs := a.Configs, Segments := a.Segments, Routes := a.Routes, Airports := l2, Classes := a.Classes, Rules := a.Rules } : Airspace).Rules))], [(.sl 2 (List.map rVolume ({ Volumes := a.Volumes, Sectors := a.Sectors, Configs := a.Configs, Segments := a.Segments, Routes := a.Routes, Airports := l3, Classes := a.Classes, Rules := a.Rules } : Airspace).Volumes)), (.sl 5 (List.map rSector ({ Volumes := a.Volumes, Sectors := a.Sectors, Configs := a.Configs, Segments := a.Segments, Routes := a.Routes, Airports := l3, Classes := a.Classes, Rules := a.Rules } : Airspace).Sectors)), (.sl 3 (List.map rConfig ({ Volumes := a.Volumes, Sectors := a.Sectors, Configs := a.Configs, Segments := a.Segments, Routes := a.Routes, Airports := l3, Classes := a.Classes, Rules := a.Rules } : Airspace).Configs)), (.sl 5 (List.map rSegment ({ Volumes := a.Volumes, Sectors := a.Sectors, Configs := a.Configs, Segments := a.Segments, Routes := a.Routes, Airports := l3, Classes := a.Classes, Rules := a.Rules } : Airspace).Segments)), (.sl 7 (List.map rRoute ({ Volumes := a.Volumes, Sectors := a.Sectors, Configs := a.Configs, Segments := a.Segments, Routes := a.Routes, Airports := l3, Classes := a.Classes, Rules := a.Rules } : Airspace).Routes)), (.sl 2 (List.map rAirport ({ Volumes := a.Volumes, Sectors := a.Sectors, Configs := a.Configs, Segments := a.Segments, Routes := a.Routes, Airports := l3, Classes := a.Classes, Rules := a.Rules } : Airspace).Airports)), (.sl 4 (List.map rClass ({ Volumes := a.Volumes, Sectors := a.Sectors, Configs := a.Configs, Segments := a.Segments, Routes := a.Routes, Airports := l3, Classes := a.Classes, Rules := a.Rules } : Airspace).Classes)), (.sl 8 (List.map rRule ({ Volumes := a.Volumes, Sectors := a.Sectors, Configs := a.Configs, Segments := a.Segments, Routes := a.Routes, Airports := l3, Classes := a.Classes, Rules := a.Rules } : Airspace).Rules))]]) rfl ti64 ti31 rfl rfl rfl rfl rfl (.cons (RowSim.refl _) (.cons (RowSim.refl _) .nil)) (fun x => ok_Airspace x) rfl rfl ?_
                              refine of_need fun hl35 => ?_
                              refine wo_append (e := rAirspace) (L := x5) (L2 := [({ Volumes := a.Volumes, Sectors := a.Sectors, Configs := a.Configs, Segments := a.Segments, Routes := a.Routes, Airports := l2, Classes := a.Classes, Rules := a.Rules } : Airspace), ({ Volumes := a.Volumes, Sectors := a.Sectors, Configs := a.Configs, Segments := a.Segments, Routes := a.Routes, Airports := l3, Classes := a.Classes, Rules := a.Rules } : Airspace)]) (v := v33) (g := g41) (st := 8) (j := 4) hI rfl rfl rfl rfl vH33 rfl (src_sl rfl) ti64 ti64 rfl ti31 rfl rfl rfl hl35 fun v49 g63 vH52 => ?_
                              refine wo_val v49 rfl pv_assign ?_
                              refine wo_nil ?_
                              refine wr_hp [none, none, none, none, (ownO v49 g63 8 (List.map rAirspace (x5 ++ [({ Volumes := a.Volumes, Sectors := a.Sectors, Configs := a.Configs, Segments := a.Segments, Routes := a.Routes, Airports := l2, Classes := a.Classes, Rules := a.Rules } : Airspace), ({ Volumes := a.Volumes, Sectors := a.Sectors, Configs := a.Configs, Segments := a.Segments, Routes := a.Routes, Airports := l3, Classes := a.Classes, Rules := a.Rules } : Airspace)]))), none, none, none, none, none, none, none, none, none, none, none, none, none, none, none, none, none] rfl ?_
                              refine wr_is [(8, v49)] (.cons rfl .nil) ?_
                              refine hJ5 (x5 ++ [({ Volumes := a.Volumes, Sectors := a.Sectors, Configs := a.Configs, Segments := a.Segments, Routes := a.Routes, Airports := l2, Classes := a.Classes, Rules := a.Rules } : Airspace), ({ Volumes := a.Volumes, Sectors := a.Sectors, Configs := a.Configs, Segments := a.Segments, Routes := a.Routes, Airports := l3, Classes := a.Classes, Rules := a.Rules } : Airspace)]) _ _ ?_
                              exact ⟨v49, g63, vH52, rfl, rfl⟩
                            · refine wr_drawT hmix (.node 17 14 (.leaf [[], [0], [], [], [2, 3], [], [], [6], [], [], [8, 9], [6, 7, 8, 9, 10], [6, 7, 8, 9, 10, 11], [6, 7, 8, 9, 10, 11, 12], [5, 6, 7, 8, 9, 10, 11, 12, 13], [], [], [5, 6, 7, 8, 9, 10, 11, 12, 13, 14, 15, 16], [5, 6, 7, 8, 9, 10, 11, 12, 13, 14, 15, 16, 17], [0, 1, 1, 2, 3, 4, 4, 5, 6, 7, 8, 9, 10, 11, 12, 13, 14, 15, 16, 17, 18], [0, 1, 2, 3, 4, 5, 6, 7, 8, 9, 10, 11, 12, 13, 14, 15, 16, 17, 18, 19], [0, 1, 2, 3, 4, 5, 6, 7, 8, 9, 10, 11, 12, 13, 14, 15, 16, 17, 18, 19, 20]] [(false, 0), (false, 1), (false, 2), (false, 3), (false, 4), (false, 6), (false, 7), (false, 8), (false, 9), (false, 10), (false, 11), (false, 12), (false, 13), (false, 15), (false, 16), (true, 5), (true, 14), (true, 17), (true, 18), (false, 19), (false, 20), (true, 21)]) (.node 17 5 (.leaf [[], [0], [], [], [2, 3], [], [], [6], [], [], [8, 9], [6, 7, 8, 9, 10], [6, 7, 8, 9, 10, 11], [6, 7, 8, 9, 10, 11, 12], [5, 6, 7, 8, 9, 10, 11, 12, 13, 15, 16, 17], [], [], [5, 15, 16], [5, 6, 7, 8, 9, 10, 11, 12, 13, 14, 15, 16, 17], [0, 1, 1, 2, 3, 4, 4, 5, 6, 7, 8, 9, 10, 11, 12, 13, 14, 15, 16, 17, 18], [0, 1, 2, 3, 4, 5, 6, 7, 8, 9, 10, 11, 12, 13, 14, 15, 16, 17, 18, 19], [0, 1, 2, 3, 4, 5, 6, 7, 8, 9, 10, 11, 12, 13, 14, 15, 16, 17, 18, 19, 20]] [(false, 0), (false, 1), (false, 2), (false, 3), (false, 4), (false, 6), (false, 7), (false, 8), (false, 9), (false, 10), (false, 11), (false, 12), (false, 13), (false, 15), (false, 16), (true, 5), (true, 17), (true, 14), (true, 18), (false, 19), (false, 20), (true, 21)]) (.leaf [[], [0], [], [], [2, 3], [15, 16, 17], [], [6], [], [], [8, 9], [6, 7, 8, 9, 10], [6, 7, 8, 9, 10, 11], [6, 7, 8, 9, 10, 11, 12], [5, 6, 7, 8, 9, 10, 11, 12, 13, 15, 16, 17], [], [], [15, 16], [5, 6, 7, 8, 9, 10, 11, 12, 13, 14, 15, 16, 17], [0, 1, 1, 2, 3, 4, 4, 5, 6, 7, 8, 9, 10, 11, 12, 13, 14, 15, 16, 17, 18], [0, 1, 2, 3, 4, 5, 6, 7, 8, 9, 10, 11, 12, 13, 14, 15, 16, 17, 18, 19], [0, 1, 2, 3, 4, 5, 6, 7, 8, 9, 10, 11, 12, 13, 14, 15, 16, 17, 18, 19, 20]] [(false, 0), (false, 1), (false, 2), (false, 3), (false, 4), (false, 6), (false, 7), (false, 8), (false, 9), (false, 10), (false, 11), (false, 12), (false, 13), (false, 15), (false, 16), (true, 17), (true, 5), (true, 14), (true, 18), (false, 19), (false, 20), (true, 21)]))) (by kernel_rfl) ?_
                              refine dt_node ?_ ?_
                              · refine dt_leaf ?_
                                refine wp_val (.ptr (ix ids 16) g47 0 5) rfl rfl (pv_fa (fa_ptr (c := 0) (off := 5) (i := 5) ti31 rfl ti27 rfl)) ?_
                                refine wp_val v41 rfl rfl (pv_load (ld_ptr hI rfl rfl rfl ti27 rfl)) ?_
                                refine wp_val (.int .i64 (IntKind.wrap .i64 b)) rfl rfl pv_move ?_
                                refine wp_val (.int .i64 (a.Airports.length : Int)) rfl rfl pv_move ?_
                                refine op_need fun hz26 => ?_
                                refine wp_val (.int .i64 (Int.tmod (IntKind.wrap .i64 b) (a.Airports.length : Int))) rfl rfl (pv_bin rfl rfl (bin_rem rfl hz26)) ?_
                                refine wp_val (.ptr (ix ids 0) g 0 5) rfl rfl (pv_fa (fa_ptr (c := 0) (off := 5) (i := 5) ti31 rfl ti27 rfl)) ?_
                                refine wp_val (.sl 2 (List.map rAirport a.Airports)) rfl rfl (pv_load (ld_ptr hI rfl rfl rfl ti27 rfl)) ?_
                                refine wp_val (.int .i64 (IntKind.wrap .i64 b)) rfl rfl pv_move ?_
                                refine wp_val (.int .i64 (a.Airports.length : Int)) rfl rfl pv_move ?_
                                refine op_need fun hz27 => ?_
                                refine wp_val (.int .i64 (Int.tmod (IntKind.wrap .i64 b) (a.Airports.length : Int))) rfl rfl (pv_bin rfl rfl (bin_rem rfl hz27)) ?_
                                refine op_idx fun a14 hz28 hx14 => ?_
                                refine wp_val (.cp (rAirport a14) 0) rfl rfl (pv_ixa (ixa_sl ti27 ti46 rfl hz28 hx14)) ?_
                                refine wp_val (.cp (rAirport a14) 1) rfl rfl (pv_fa (fa_cp (c := 0) (off := 1) (i := 1) ti46 rfl ti44 rfl)) ?_
                                refine wp_val (.sl 2 (List.map rMode a14.Modes)) rfl rfl (pv_load (ld_cp ti44 rfl)) ?_
                                refine wp_val (.agg [(.str [109]), (.int .i64 1)]) rfl rfl (pv_build (bd_st ti66 pl66 rfl)) ?_
                                refine wp_val (.agg [(.str [109]), (.int .i64 2)]) rfl rfl (pv_build (bd_st ti66 pl66 rfl)) ?_
                                refine wp_op rfl rfl (fun _ _ => rfl) (fun K hK => eff_bs0 ti44 ti66 (hK _ _ (pend_no rfl (pv_build (bd_st ti66 pl66 rfl)) (pend_no rfl (pv_build (bd_st ti66 pl66 rfl)) (pend_no rfl (pv_load (ld_cp ti44 rfl)) (pend_no rfl (pv_fa (fa_cp (c := 0) (off := 1) (i := 1) ti46 rfl ti44 rfl)) (pend_no rfl (pv_ixa (ixa_sl ti27 ti46 rfl hz28 hx14)) (pend_no rfl (pv_bin rfl rfl (bin_rem rfl hz27)) (pend_no rfl pv_move (pend_no rfl pv_move (pend_no rfl (pv_load (ld_ptr hI rfl rfl rfl ti27 rfl)) (pend_no rfl (pv_fa (fa_ptr (c := 0) (off := 5) (i := 5) ti31 rfl ti27 rfl)) (pend_no rfl (pv_bin rfl rfl (bin_rem rfl hz26)) (pend_no rfl pv_move (pend_no rfl pv_move (pend_no rfl (pv_load (ld_ptr hI rfl rfl rfl ti27 rfl)) (pend_no rfl (pv_fa (fa_ptr (c := 0) (off := 5) (i := 5) ti31 rfl ti27 rfl)) pend_nil))))))))))))))) ?_)) 
                                clear hK K
                                refine op_need fun hl29 => ?_
                                refine wp_op rfl rfl (fun _ _ => rfl) (fun K hK => eff_append (e := rMode) (L := ([] : List Mode)) (L2 := a14.Modes) (v := .emp) (g := 0) (st := 2) (j := 19) hI rfl rfl rfl .nil rfl (src_sl rfl) ti44 ti44 rfl ti66 rfl rfl rfl (by simpa using hl29) fun v42 g56 vH42 => hK _ _ (pend_no rfl (pv_build (bd_st ti66 pl66 rfl)) (pend_no rfl (pv_build (bd_st ti66 pl66 rfl)) (pend_yes rfl (pend_yes rfl (pend_yes rfl (pend_yes rfl (pend_yes rfl (pend_yes rfl (pend_yes rfl (pend_yes rfl (pend_no rfl (pv_bin rfl rfl (bin_rem rfl hz26)) (pend_no rfl pv_move (pend_no rfl pv_move (pend_no rfl (pv_load (ld_ptr hI rfl rfl rfl ti27 rfl)) (pend_no rfl (pv_fa (fa_ptr (c := 0) (off := 5) (i := 5) ti31 rfl ti27 rfl)) pend_nil))))))))))))))) ?_) 
                                clear hK K
                                refine wp_op rfl rfl (fun _ _ => rfl) (fun K hK => eff_bsC (e := rMode) (L := [({ Name := [109], Places := 1 } : Mode), ({ Name := [109], Places := 2 } : Mode)]) (st := 2) (rows := [[(.str [109]), (.int .i64 1)], [(.str [109]), (.int .i64 2)]]) ti44 ti66 rfl rfl rfl rfl rfl (.cons (.cons (.same _) (.cons (.same _) .nil)) (.cons (.cons (.same _) (.cons (.same _) .nil)) .nil)) (fun x => ok_Mode x) rfl rfl (hK _ _ (pend_yes rfl (pend_yes rfl (pend_yes rfl (pend_yes rfl (pend_yes rfl (pend_yes rfl (pend_yes rfl (pend_yes rfl (pend_yes rfl (pend_yes rfl (pend_no rfl (pv_bin rfl rfl (bin_rem rfl hz26)) (pend_no rfl pv_move (pend_no rfl pv_move (pend_no rfl (pv_load (ld_ptr hI rfl rfl rfl ti27 rfl)) (pend_no rfl (pv_fa (fa_ptr (c := 0) (off := 5) (i := 5) ti31 rfl ti27 rfl)) pend_nil))))))))))))))) ?_)) 
                                clear hK K
                                refine op_need fun hl30 => ?_
                                refine wp_op rfl rfl (fun _ _ => rfl) (fun K hK => eff_append (e := rMode) (L := a14.Modes) (L2 := [({ Name := [109], Places := 1 } : Mode), ({ Name := [109], Places := 2 } : Mode)]) (v := v42) (g := g56) (st := 2) (j := 19) hI rfl rfl rfl vH42 rfl (src_sl rfl) ti44 ti44 rfl ti66 rfl rfl rfl hl30 fun v43 g57 vH43 => hK _ _ (pend_yes rfl (pend_yes rfl (pend_yes rfl (pend_yes rfl (pend_yes rfl (pend_yes rfl (pend_yes rfl (pend_yes rfl (pend_yes rfl (pend_yes rfl (pend_no rfl (pv_bin rfl rfl (bin_rem rfl hz26)) (pend_no rfl pv_move (pend_no rfl pv_move (pend_no rfl (pv_load (ld_ptr hI rfl rfl rfl ti27 rfl)) (pend_no rfl (pv_fa (fa_ptr (c := 0) (off := 5) (i := 5) ti31 rfl ti27 rfl)) pend_nil))))))))))))))) ?_) 
                                clear hK K
                                refine wp_val (.ptr (ix ids 18) g55 (Int.tmod (IntKind.wrap .i64 b) (a.Airports.length : Int)).toNat 0) rfl rfl (pv_ixa (ixa_own hI rfl vH41 rfl ti27 ti46 rfl hz28 hx14)) ?_
                                refine wp_val (.ptr (ix ids 18) g55 (Int.tmod (IntKind.wrap .i64 b) (a.Airports.length : Int)).toNat 1) rfl rfl (pv_fa (fa_ptr (c := 0) (off := 1) (i := 1) ti46 rfl ti44 rfl)) ?_
                                refine wp_op0 rfl (fun _ _ => rfl) (fun K hK => eff_store (st_ownRO [(.str a14.Name), v43] vH43 hI rfl rfl vH41 rfl hx14 ti44 rfl rfl rfl rfl) (hK _ _ (pend_yes rfl (pend_yes rfl (pend_yes rfl (pend_yes rfl (pend_yes rfl (pend_yes rfl (pend_yes rfl (pend_yes rfl (pend_yes rfl (pend_yes rfl (pend_yes rfl (pend_yes rfl (pend_yes rfl (pend_yes rfl (pend_yes rfl (pend_yes rfl (pend_yes rfl pend_nil))))))))))))))))) ?_)) 
                                clear hK K
                                refine wp_nil ?_
                                refine wr_hp [(some (.rows g 8 [(rAirspace a)])), none, none, none, (ownO v33 g41 8 (List.map rAirspace x5)), none, none, none, none, none, none, none, none, none, none, (some (.rows g46 8 [[(.sl 2 (List.map rVolume a.Volumes)), (.sl 5 (List.map rSector a.Sectors)), (.sl 3 (List.map rConfig a.Configs)), (.sl 5 (List.map rSegment a.Segments)), (.sl 7 (List.map rRoute a.Routes)), v40, (.sl 4 (List.map rClass a.Classes)), (.sl 8 (List.map rRule a.Rules))]])), (some (.rows g47 8 [[(.sl 2 (List.map rVolume a.Volumes)), (.sl 5 (List.map rSector a.Sectors)), (.sl 3 (List.map rConfig a.Configs)), (.sl 5 (List.map rSegment a.Segments)), (.sl 7 (List.map rRoute a.Routes)), v41, (.sl 4 (List.map rClass a.Classes)), (.sl 8 (List.map rRule a.Rules))]])), (ownO v40 g54 2 (List.map rAirport l2)), (ownO v41 g55 2 (List.set (List.map rAirport a.Airports) (Int.tmod (IntKind.wrap .i64 b) (a.Airports.length : Int)).toNat [(.str a14.Name), v43])), (ownO v43 g57 2 (List.map rMode (a14.Modes ++ [({ Name := [109], Places := 1 } : Mode), ({ Name := [109], Places := 2 } : Mode)]))), none, none] rfl ?_
                                refine wr_fm [(some (.rows g 8 [(rAirspace a)])), none, none, none, (ownO v33 g41 8 (List.map rAirspace x5)), none, none, none, none, none, none, none, none, none, none, (some (.rows g46 8 [[(.sl 2 (List.map rVolume a.Volumes)), (.sl 5 (List.map rSector a.Sectors)), (.sl 3 (List.map rConfig a.Configs)), (.sl 5 (List.map rSegment a.Segments)), (.sl 7 (List.map rRoute a.Routes)), v40, (.sl 4 (List.map rClass a.Classes)), (.sl 8 (List.map rRule a.Rules))]])), (some (.rows g47 8 [[(.sl 2 (List.map rVolume a.Volumes)), (.sl 5 (List.map rSector a.Sectors)), (.sl 3 (List.map rConfig a.Configs)), (.sl 5 (List.map rSegment a.Segments)), (.sl 7 (List.map rRoute a.Routes)), v41, (.sl 4 (List.map rClass a.Classes)), (.sl 8 (List.map rRule a.Rules))]])), (ownO v40 g54 2 (List.map rAirport l2)), (ownO v41 g55 2 (List.map rAirport (a.Airports.set (Int.tmod (IntKind.wrap .i64 b) (a.Airports.length : Int)).toNat { a14 with Modes := (a14.Modes ++ [({ Name := [109], Places := 1 } : Mode), ({ Name := [109], Places := 2 } : Mode)]) }))), none, none, none] [(8, v33), (22, (.ptr (ix ids 15) g46 0 0)), (23, (.ptr (ix ids 16) g47 0 0))] hI rfl (.keep (.keep (.keep (.keep (.keep (.keep (.keep (.keep (.keep (.keep (.keep (.keep (.keep (.keep (.keep (.keep (.keep (.keep (.own (fun x => ok_Airport x) (.cons (.same _) (.cons (own_fz vH43 (hI.at rfl rfl) (hI.at rfl rfl) (fun x => ok_Mode x)) .nil)) (.drop (.keep (.keep .nil)))))))))))))))))))))) (.cons (.same _) (.cons (.same _) (.cons (.same _) .nil))) ?_
                                have vH44 := OwnV.set (i := (Int.tmod (IntKind.wrap .i64 b) (a.Airports.length : Int)).toNat) (y := { a14 with Modes := (a14.Modes ++ [({ Name := [109], Places := 1 } : Mode), ({ Name := [109], Places := 2 } : Mode)]) }) vH41
                                refine wr_drop [none, none, none, none, (ownO v33 g41 8 (List.map rAirspace x5)), none, none, none, none, none, none, none, none, none, none, (some (.rows g46 8 [[(.sl 2 (List.map rVolume a.Volumes)), (.sl 5 (List.map rSector a.Sectors)), (.sl 3 (List.map rConfig a.Configs)), (.sl 5 (List.map rSegment a.Segments)), (.sl 7 (List.map rRoute a.Routes)), v40, (.sl 4 (List.map rClass a.Classes)), (.sl 8 (List.map rRule a.Rules))]])), (some (.rows g47 8 [[(.sl 2 (List.map rVolume a.Volumes)), (.sl 5 (List.map rSector a.Sectors)), (.sl 3 (List.map rConfig a.Configs)), (.sl 5 (List.map rSegment a.Segments)), (.sl 7 (List.map rRoute a.Routes)), v41, (.sl 4 (List.map rClass a.Classes)), (.sl 8 (List.map rRule a.Rules))]])), (ownO v40 g54 2 (List.map rAirport l2)), (ownO v41 g55 2 (List.map rAirport (a.Airports.set (Int.tmod (IntKind.wrap .i64 b) (a.Airports.length : Int)).toNat { a14 with Modes := (a14.Modes ++ [({ Name := [109], Places := 1 } : Mode), ({ Name := [109], Places := 2 } : Mode)]) }))), none, none, none] hI rfl (.drop (.keep (.keep (.keep (.keep (.keep (.keep (.keep (.keep (.keep (.keep (.keep (.keep (.keep (.keep (.keep (.keep (.keep (.keep (.keep (.keep (.keep .nil)))))))))))))))))))))) ?_
                                refine wr_is [(8, v33), (22, (.ptr (ix ids 15) g46 0 0)), (23, (.ptr (ix ids 16) g47 0 0))] (.cons rfl (.cons rfl (.cons rfl .nil))) ?_
                                refine hJ2 (a.Airports.set (Int.tmod (IntKind.wrap .i64 b) (a.Airports.length : Int)).toNat { a14 with Modes := (a14.Modes ++ [({ Name := [109], Places := 1 } : Mode), ({ Name := [109], Places := 2 } : Mode)]) }) _ _ ?_
                                exact ⟨v41, g55, vH44, rfl, rfl⟩
                              · refine dt_node ?_ ?_
                                · refine dt_leaf ?_
                                  refine wp_val (.ptr (ix ids 16) g47 0 5) rfl rfl (pv_fa (fa_ptr (c := 0) (off := 5) (i := 5) ti31 rfl ti27 rfl)) ?_
                                  refine wp_val v41 rfl rfl (pv_load (ld_ptr hI rfl rfl rfl ti27 rfl)) ?_
                                  refine wp_val (.int .i64 (IntKind.wrap .i64 b)) rfl rfl pv_move ?_
                                  refine wp_val (.int .i64 (a.Airports.length : Int)) rfl rfl pv_move ?_
                                  refine op_need fun hz29 => ?_
                                  refine wp_val (.int .i64 (Int.tmod (IntKind.wrap .i64 b) (a.Airports.length : Int))) rfl rfl (pv_bin rfl rfl (bin_rem rfl hz29)) ?_
                                  refine wp_val (.ptr (ix ids 0) g 0 5) rfl rfl (pv_fa (fa_ptr (c := 0) (off := 5) (i := 5) ti31 rfl ti27 rfl)) ?_
                                  refine wp_val (.sl 2 (List.map rAirport a.Airports)) rfl rfl (pv_load (ld_ptr hI rfl rfl rfl ti27 rfl)) ?_
                                  refine wp_val (.int .i64 (IntKind.wrap .i64 b)) rfl rfl pv_move ?_
                                  refine wp_val (.int .i64 (a.Airports.length : Int)) rfl rfl pv_move ?_
                                  refine op_need fun hz30 => ?_
                                  refine wp_val (.int .i64 (Int.tmod (IntKind.wrap .i64 b) (a.Airports.length : Int))) rfl rfl (pv_bin rfl rfl (bin_rem rfl hz30)) ?_
                                  refine op_idx fun a15 hz31 hx15 => ?_
                                  refine wp_val (.cp (rAirport a15) 0) rfl rfl (pv_ixa (ixa_sl ti27 ti46 rfl hz31 hx15)) ?_
                                  refine wp_val (.cp (rAirport a15) 1) rfl rfl (pv_fa (fa_cp (c := 0) (off := 1) (i := 1) ti46 rfl ti44 rfl)) ?_
                                  refine wp_val (.sl 2 (List.map rMode a15.Modes)) rfl rfl (pv_load (ld_cp ti44 rfl)) ?_
                                  refine wp_val (.agg [(.str [109]), (.int .i64 1)]) rfl rfl (pv_build (bd_st ti66 pl66 rfl)) ?_
                                  refine wp_val (.agg [(.str [109]), (.int .i64 2)]) rfl rfl (pv_build (bd_st ti66 pl66 rfl)) ?_
                                  refine wp_op rfl rfl (fun _ _ => rfl) (fun K hK => eff_bs0 ti44 ti66 (hK _ _ (pend_no rfl (pv_build (bd_st ti66 pl66 rfl)) (pend_no rfl (pv_build (bd_st ti66 pl66 rfl)) (pend_no rfl (pv_load (ld_cp ti44 rfl)) (pend_no rfl (pv_fa (fa_cp (c := 0) (off := 1) (i := 1) ti46 rfl ti44 rfl)) (pend_no rfl (pv_ixa (ixa_sl ti27 ti46 rfl hz31 hx15)) (pend_no rfl (pv_bin rfl rfl (bin_rem rfl hz30)) (pend_no rfl pv_move (pend_no rfl pv_move (pend_no rfl (pv_load (ld_ptr hI rfl rfl rfl ti27 rfl)) (pend_no rfl (pv_fa (fa_ptr (c := 0) (off := 5) (i := 5) ti31 rfl ti27 rfl)) (pend_no rfl (pv_bin rfl rfl (bin_rem rfl hz29)) (pend_no rfl pv_move (pend_no rfl pv_move (pend_no rfl (pv_load (ld_ptr hI rfl rfl rfl ti27 rfl)) (pend_no rfl (pv_fa (fa_ptr (c := 0) (off := 5) (i := 5) ti31 rfl ti27 rfl)) pend_nil))))))))))))))) ?_)) 
                                  clear hK K
                                  refine wp_op rfl rfl (fun _ _ => rfl) (fun K hK => eff_bsC (e := rMode) (L := [({ Name := [109], Places := 1 } : Mode), ({ Name := [109], Places := 2 } : Mode)]) (st := 2) (rows := [[(.str [109]), (.int .i64 1)], [(.str [109]), (.int .i64 2)]]) ti44 ti66 rfl rfl rfl rfl rfl (.cons (.cons (.same _) (.cons (.same _) .nil)) (.cons (.cons (.same _) (.cons (.same _) .nil)) .nil)) (fun x => ok_Mode x) rfl rfl (hK _ _ (pend_yes rfl (pend_yes rfl (pend_no rfl (pv_load (ld_cp ti44 rfl)) (pend_no rfl (pv_fa (fa_cp (c := 0) (off := 1) (i := 1) ti46 rfl ti44 rfl)) (pend_no rfl (pv_ixa (ixa_sl ti27 ti46 rfl hz31 hx15)) (pend_no rfl (pv_bin rfl rfl (bin_rem rfl hz30)) (pend_no rfl pv_move (pend_no rfl pv_move (pend_no rfl (pv_load (ld_ptr hI rfl rfl rfl ti27 rfl)) (pend_no rfl (pv_fa (fa_ptr (c := 0) (off := 5) (i := 5) ti31 rfl ti27 rfl)) (pend_no rfl (pv_bin rfl rfl (bin_rem rfl hz29)) (pend_no rfl pv_move (pend_no rfl pv_move (pend_no rfl (pv_load (ld_ptr hI rfl rfl rfl ti27 rfl)) (pend_no rfl (pv_fa (fa_ptr (c := 0) (off := 5) (i := 5) ti31 rfl ti27 rfl)) pend_nil))))))))))))))) ?_)) 
                                  clear hK K
                                  refine op_need fun hl31 => ?_
                                  refine wp_op rfl rfl (fun _ _ => rfl) (fun K hK => eff_append (e := rMode) (L := ([] : List Mode)) (L2 := a15.Modes) (v := .emp) (g := 0) (st := 2) (j := 19) hI rfl rfl rfl .nil rfl (src_sl rfl) ti44 ti44 rfl ti66 rfl rfl rfl (by simpa using hl31) fun v44 g58 vH45 => hK _ _ (pend_yes rfl (pend_yes rfl (pend_yes rfl (pend_yes rfl (pend_yes rfl (pend_yes rfl (pend_yes rfl (pend_yes rfl (pend_yes rfl (pend_yes rfl (pend_no rfl (pv_bin rfl rfl (bin_rem rfl hz29)) (pend_no rfl pv_move (pend_no rfl pv_move (pend_no rfl (pv_load (ld_ptr hI rfl rfl rfl ti27 rfl)) (pend_no rfl (pv_fa (fa_ptr (c := 0) (off := 5) (i := 5) ti31 rfl ti27 rfl)) pend_nil))))))))))))))) ?_) 
                                  clear hK K
                                  refine op_need fun hl32 => ?_
                                  refine wp_op rfl rfl (fun _ _ => rfl) (fun K hK => eff_append (e := rMode) (L := a15.Modes) (L2 := [({ Name := [109], Places := 1 } : Mode), ({ Name := [109], Places := 2 } : Mode)]) (v := v44) (g := g58) (st := 2) (j := 19) hI rfl rfl rfl vH45 rfl (src_sl rfl) ti44 ti44 rfl ti66 rfl rfl rfl hl32 fun v45 g59 vH46 => hK _ _ (pend_yes rfl (pend_yes rfl (pend_yes rfl (pend_yes rfl (pend_yes rfl (pend_yes rfl (pend_yes rfl (pend_yes rfl (pend_yes rfl (pend_yes rfl (pend_no rfl (pv_bin rfl rfl (bin_rem rfl hz29)) (pend_no rfl pv_move (pend_no rfl pv_move (pend_no rfl (pv_load (ld_ptr hI rfl rfl rfl ti27 rfl)) (pend_no rfl (pv_fa (fa_ptr (c := 0) (off := 5) (i := 5) ti31 rfl ti27 rfl)) pend_nil))))))))))))))) ?_) 
                                  clear hK K
                                  refine wp_val (.ptr (ix ids 18) g55 (Int.tmod (IntKind.wrap .i64 b) (a.Airports.length : Int)).toNat 0) rfl rfl (pv_ixa (ixa_own hI rfl vH41 rfl ti27 ti46 rfl hz31 hx15)) ?_
                                  refine wp_val (.ptr (ix ids 18) g55 (Int.tmod (IntKind.wrap .i64 b) (a.Airports.length : Int)).toNat 1) rfl rfl (pv_fa (fa_ptr (c := 0) (off := 1) (i := 1) ti46 rfl ti44 rfl)) ?_
                                  refine wp_op0 rfl (fun _ _ => rfl) (fun K hK => eff_store (st_ownRO [(.str a15.Name), v45] vH46 hI rfl rfl vH41 rfl hx15 ti44 rfl rfl rfl rfl) (hK _ _ (pend_yes rfl (pend_yes rfl (pend_yes rfl (pend_yes rfl (pend_yes rfl (pend_yes rfl (pend_yes rfl (pend_yes rfl (pend_yes rfl (pend_yes rfl (pend_yes rfl (pend_yes rfl (pend_yes rfl (pend_yes rfl (pend_yes rfl (pend_yes rfl (pend_yes rfl pend_nil))))))))))))))))) ?_)) 
                                  clear hK K
                                  refine wp_nil ?_
                                  refine wr_hp [(some (.rows g 8 [(rAirspace a)])), none, none, none, (ownO v33 g41 8 (List.map rAirspace x5)), none, none, none, none, none, none, none, none, none, none, (some (.rows g46 8 [[(.sl 2 (List.map rVolume a.Volumes)), (.sl 5 (List.map rSector a.Sectors)), (.sl 3 (List.map rConfig a.Configs)), (.sl 5 (List.map rSegment a.Segments)), (.sl 7 (List.map rRoute a.Routes)), v40, (.sl 4 (List.map rClass a.Classes)), (.sl 8 (List.map rRule a.Rules))]])), (some (.rows g47 8 [[(.sl 2 (List.map rVolume a.Volumes)), (.sl 5 (List.map rSector a.Sectors)), (.sl 3 (List.map rConfig a.Configs)), (.sl 5 (List.map rSegment a.Segments)), (.sl 7 (List.map rRoute a.Routes)), v41, (.sl 4 (List.map rClass a.Classes)), (.sl 8 (List.map rRule a.Rules))]])), (ownO v40 g54 2 (List.map rAirport l2)), (ownO v41 g55 2 (List.set (List.map rAirport a.Airports) (Int.tmod (IntKind.wrap .i64 b) (a.Airports.length : Int)).toNat [(.str a15.Name), v45])), (ownO v45 g59 2 (List.map rMode (a15.Modes ++ [({ Name := [109], Places := 1 } : Mode), ({ Name := [109], Places := 2 } : Mode)]))), none, none] rfl ?_
                                  refine wr_fm [(some (.rows g 8 [(rAirspace a)])), none, none, none, (ownO v33 g41 8 (List.map rAirspace x5)), none, none, none, none, none, none, none, none, none, none, (some (.rows g46 8 [[(.sl 2 (List.map rVolume a.Volumes)), (.sl 5 (List.map rSector a.Sectors)), (.sl 3 (List.map rConfig a.Configs)), (.sl 5 (List.map rSegment a.Segments)), (.sl 7 (List.map rRoute a.Routes)), v40, (.sl 4 (List.map rClass a.Classes)), (.sl 8 (List.map rRule a.Rules))]])), (some (.rows g47 8 [[(.sl 2 (List.map rVolume a.Volumes)), (.sl 5 (List.map rSector a.Sectors)), (.sl 3 (List.map rConfig a.Configs)), (.sl 5 (List.map rSegment a.Segments)), (.sl 7 (List.map rRoute a.Routes)), v41, (.sl 4 (List.map rClass a.Classes)), (.sl 8 (List.map rRule a.Rules))]])), (ownO v40 g54 2 (List.map rAirport l2)), (ownO v41 g55 2 (List.map rAirport (a.Airports.set (Int.tmod (IntKind.wrap .i64 b) (a.Airports.length : Int)).toNat { a15 with Modes := (a15.Modes ++ [({ Name := [109], Places := 1 } : Mode), ({ Name := [109], Places := 2 } : Mode)]) }))), none, none, none] [(8, v33), (22, (.ptr (ix ids 15) g46 0 0)), (23, (.ptr (ix ids 16) g47 0 0))] hI rfl (.keep (.keep (.keep (.keep (.keep (.keep (.keep (.keep (.keep (.keep (.keep (.keep (.keep (.keep (.keep (.keep (.keep (.keep (.own (fun x => ok_Airport x) (.cons (.same _) (.cons (own_fz vH46 (hI.at rfl rfl) (hI.at rfl rfl) (fun x => ok_Mode x)) .nil)) (.drop (.keep (.keep .nil)))))))))))))))))))))) (.cons (.same _) (.cons (.same _) (.cons (.same _) .nil))) ?_
                                  have vH47 := OwnV.set (i := (Int.tmod (IntKind.wrap .i64 b) (a.Airports.length : Int)).toNat) (y := { a15 with Modes := (a15.Modes ++ [({ Name := [109], Places := 1 } : Mode), ({ Name := [109], Places := 2 } : Mode)]) }) vH41
                                  refine wr_drop [none, none, none, none, (ownO v33 g41 8 (List.map rAirspace x5)), none, none, none, none, none, none, none, none, none, none, (some (.rows g46 8 [[(.sl 2 (List.map rVolume a.Volumes)), (.sl 5 (List.map rSector a.Sectors)), (.sl 3 (List.map rConfig a.Configs)), (.sl 5 (List.map rSegment a.Segments)), (.sl 7 (List.map rRoute a.Routes)), v40, (.sl 4 (List.map rClass a.Classes)), (.sl 8 (List.map rRule a.Rules))]])), (some (.rows g47 8 [[(.sl 2 (List.map rVolume a.Volumes)), (.sl 5 (List.map rSector a.Sectors)), (.sl 3 (List.map rConfig a.Configs)), (.sl 5 (List.map rSegment a.Segments)), (.sl 7 (List.map rRoute a.Routes)), v41, (.sl 4 (List.map rClass a.Classes)), (.sl 8 (List.map rRule a.Rules))]])), (ownO v40 g54 2 (List.map rAirport l2)), (ownO v41 g55 2 (List.map rAirport (a.Airports.set (Int.tmod (IntKind.wrap .i64 b) (a.Airports.length : Int)).toNat { a15 with Modes := (a15.Modes ++ [({ Name := [109], Places := 1 } : Mode), ({ Name := [109], Places := 2 } : Mode)]) }))), none, none, none] hI rfl (.drop (.keep (.keep (.keep (.keep (.keep (.keep (.keep (.keep (.keep (.keep (.keep (.keep (.keep (.keep (.keep (.keep (.keep (.keep (.keep (.keep (.keep .nil)))))))))))))))))))))) ?_
                                  refine wr_is [(8, v33), (22, (.ptr (ix ids 15) g46 0 0)), (23, (.ptr (ix ids 16) g47 0 0))] (.cons rfl (.cons rfl (.cons rfl .nil))) ?_
                                  refine hJ2 (a.Airports.set (Int.tmod (IntKind.wrap .i64 b) (a.Airports.length : Int)).toNat { a15 with Modes := (a15.Modes ++ [({ Name := [109], Places := 1 } : Mode), ({ Name := [109], Places := 2 } : Mode)]) }) _ _ ?_
                                  exact ⟨v41, g55, vH47, rfl, rfl⟩
                                · refine dt_leaf ?_
                                  refine wp_val (.ptr (ix ids 16) g47 0 5) rfl rfl (pv_fa (fa_ptr (c := 0) (off := 5) (i := 5) ti31 rfl ti27 rfl)) ?_
                                  refine wp_val v41 rfl rfl (pv_load (ld_ptr hI rfl rfl rfl ti27 rfl)) ?_
                                  refine wp_val (.int .i64 (IntKind.wrap .i64 b)) rfl rfl pv_move ?_
                                  refine wp_val (.int .i64 (a.Airports.length : Int)) rfl rfl pv_move ?_
                                  refine op_need fun hz32 => ?_
                                  refine wp_val (.int .i64 (Int.tmod (IntKind.wrap .i64 b) (a.Airports.length : Int))) rfl rfl (pv_bin rfl rfl (bin_rem rfl hz32)) ?_
                                  refine wp_val (.ptr (ix ids 0) g 0 5) rfl rfl (pv_fa (fa_ptr (c := 0) (off := 5) (i := 5) ti31 rfl ti27 rfl)) ?_
                                  refine wp_val (.sl 2 (List.map rAirport a.Airports)) rfl rfl (pv_load (ld_ptr hI rfl rfl rfl ti27 rfl)) ?_
                                  refine wp_val (.int .i64 (IntKind.wrap .i64 b)) rfl rfl pv_move ?_
                                  refine wp_val (.int .i64 (a.Airports.length : Int)) rfl rfl pv_move ?_
                                  refine op_need fun hz33 => ?_
                                  refine wp_val (.int .i64 (Int.tmod (IntKind.wrap .i64 b) (a.Airports.length : Int))) rfl rfl (pv_bin rfl rfl (bin_rem rfl hz33)) ?_
                                  refine op_idx fun a16 hz34 hx16 => ?_
                                  refine wp_val (.cp (rAirport a16) 0) rfl rfl (pv_ixa (ixa_sl ti27 ti46 rfl hz34 hx16)) ?_
                                  refine wp_val (.cp (rAirport a16) 1) rfl rfl (pv_fa (fa_cp (c := 0) (off := 1) (i := 1) ti46 rfl ti44 rfl)) ?_
                                  refine wp_val (.sl 2 (List.map rMode a16.Modes)) rfl rfl (pv_load (ld_cp ti44 rfl)) ?_
                                  refine wp_val (.agg [(.str [109]), (.int .i64 1)]) rfl rfl (pv_build (bd_st ti66 pl66 rfl)) ?_
                                  refine wp_val (.agg [(.str [109]), (.int .i64 2)]) rfl rfl (pv_build (bd_st ti66 pl66 rfl)) ?_
                                  refine wp_op rfl rfl (fun _ _ => rfl) (fun K hK => eff_bsC (e := rMode) (L := [({ Name := [109], Places := 1 } : Mode), ({ Name := [109], Places := 2 } : Mode)]) (st := 2) (rows := [[(.str [109]), (.int .i64 1)], [(.str [109]), (.int .i64 2)]]) ti44 ti66 rfl rfl rfl rfl rfl (.cons (.cons (.same _) (.cons (.same _) .nil)) (.cons (.cons (.same _) (.cons (.same _) .nil)) .nil)) (fun x => ok_Mode x) rfl rfl (hK _ _ (pend_yes rfl (pend_yes rfl (pend_no rfl (pv_load (ld_cp ti44 rfl)) (pend_no rfl (pv_fa (fa_cp (c := 0) (off := 1) (i := 1) ti46 rfl ti44 rfl)) (pend_no rfl (pv_ixa (ixa_sl ti27 ti46 rfl hz34 hx16)) (pend_no rfl (pv_bin rfl rfl (bin_rem rfl hz33)) (pend_no rfl pv_move (pend_no rfl pv_move (pend_no rfl (pv_load (ld_ptr hI rfl rfl rfl ti27 rfl)) (pend_no rfl (pv_fa (fa_ptr (c := 0) (off := 5) (i := 5) ti31 rfl ti27 rfl)) (pend_no rfl (pv_bin rfl rfl (bin_rem rfl hz32)) (pend_no rfl pv_move (pend_no rfl pv_move (pend_no rfl (pv_load (ld_ptr hI rfl rfl rfl ti27 rfl)) (pend_no rfl (pv_fa (fa_ptr (c := 0) (off := 5) (i := 5) ti31 rfl ti27 rfl)) pend_nil))))))))))))))) ?_)) 
                                  clear hK K
                                  refine wp_op rfl rfl (fun _ _ => rfl) (fun K hK => eff_bs0 ti44 ti66 (hK _ _ (pend_yes rfl (pend_yes rfl (pend_no rfl (pv_load (ld_cp ti44 rfl)) (pend_no rfl (pv_fa (fa_cp (c := 0) (off := 1) (i := 1) ti46 rfl ti44 rfl)) (pend_no rfl (pv_ixa (ixa_sl ti27 ti46 rfl hz34 hx16)) (pend_no rfl (pv_bin rfl rfl (bin_rem rfl hz33)) (pend_no rfl pv_move (pend_no rfl pv_move (pend_no rfl (pv_load (ld_ptr hI rfl rfl rfl ti27 rfl)) (pend_no rfl (pv_fa (fa_ptr (c := 0) (off := 5) (i := 5) ti31 rfl ti27 rfl)) (pend_no rfl (pv_bin rfl rfl (bin_rem rfl hz32)) (pend_no rfl pv_move (pend_no rfl pv_move (pend_no rfl (pv_load (ld_ptr hI rfl rfl rfl ti27 rfl)) (pend_no rfl (pv_fa (fa_ptr (c := 0) (off := 5) (i := 5) ti31 rfl ti27 rfl)) pend_nil))))))))))))))) ?_)) 
                                  clear hK K
                                  refine op_need fun hl33 => ?_
                                  refine wp_op rfl rfl (fun _ _ => rfl) (fun K hK => eff_append (e := rMode) (L := ([] : List Mode)) (L2 := a16.Modes) (v := .emp) (g := 0) (st := 2) (j := 19) hI rfl rfl rfl .nil rfl (src_sl rfl) ti44 ti44 rfl ti66 rfl rfl rfl (by simpa using hl33) fun v46 g60 vH48 => hK _ _ (pend_yes rfl (pend_yes rfl (pend_yes rfl (pend_yes rfl (pend_yes rfl (pend_yes rfl (pend_yes rfl (pend_yes rfl (pend_yes rfl (pend_yes rfl (pend_no rfl (pv_bin rfl rfl (bin_rem rfl hz32)) (pend_no rfl pv_move (pend_no rfl pv_move (pend_no rfl (pv_load (ld_ptr hI rfl rfl rfl ti27 rfl)) (pend_no rfl (pv_fa (fa_ptr (c := 0) (off := 5) (i := 5) ti31 rfl ti27 rfl)) pend_nil))))))))))))))) ?_) 
                                  clear hK K
                                  refine op_need fun hl34 => ?_
                                  refine wp_op rfl rfl (fun _ _ => rfl) (fun K hK => eff_append (e := rMode) (L := a16.Modes) (L2 := [({ Name := [109], Places := 1 } : Mode), ({ Name := [109], Places := 2 } : Mode)]) (v := v46) (g := g60) (st := 2) (j := 19) hI rfl rfl rfl vH48 rfl (src_sl rfl) ti44 ti44 rfl ti66 rfl rfl rfl hl34 fun v47 g61 vH49 => hK _ _ (pend_yes rfl (pend_yes rfl (pend_yes rfl (pend_yes rfl (pend_yes rfl (pend_yes rfl (pend_yes rfl (pend_yes rfl (pend_yes rfl (pend_yes rfl (pend_no rfl (pv_bin rfl rfl (bin_rem rfl hz32)) (pend_no rfl pv_move (pend_no rfl pv_move (pend_no rfl (pv_load (ld_ptr hI rfl rfl rfl ti27 rfl)) (pend_no rfl (pv_fa (fa_ptr (c := 0) (off := 5) (i := 5) ti31 rfl ti27 rfl)) pend_nil))))))))))))))) ?_) 
                                  clear hK K
                                  refine wp_val (.ptr (ix ids 18) g55 (Int.tmod (IntKind.wrap .i64 b) (a.Airports.length : Int)).toNat 0) rfl rfl (pv_ixa (ixa_own hI rfl vH41 rfl ti27 ti46 rfl hz34 hx16)) ?_
                                  refine wp_val (.ptr (ix ids 18) g55 (Int.tmod (IntKind.wrap .i64 b) (a.Airports.length : Int)).toNat 1) rfl rfl (pv_fa (fa_ptr (c := 0) (off := 1) (i := 1) ti46 rfl ti44 rfl)) ?_
                                  refine wp_op0 rfl (fun _ _ => rfl) (fun K hK => eff_store (st_ownRO [(.str a16.Name), v47] vH49 hI rfl rfl vH41 rfl hx16 ti44 rfl rfl rfl rfl) (hK _ _ (pend_yes rfl (pend_yes rfl (pend_yes rfl (pend_yes rfl (pend_yes rfl (pend_yes rfl (pend_yes rfl (pend_yes rfl (pend_yes rfl (pend_yes rfl (pend_yes rfl (pend_yes rfl (pend_yes rfl (pend_yes rfl (pend_yes rfl (pend_yes rfl (pend_yes rfl pend_nil))))))))))))))))) ?_)) 
                                  clear hK K
                                  refine wp_nil ?_
                                  refine wr_hp [(some (.rows g 8 [(rAirspace a)])), none, none, none, (ownO v33 g41 8 (List.map rAirspace x5)), none, none, none, none, none, none, none, none, none, none, (some (.rows g46 8 [[(.sl 2 (List.map rVolume a.Volumes)), (.sl 5 (List.map rSector a.Sectors)), (.sl 3 (List.map rConfig a.Configs)), (.sl 5 (List.map rSegment a.Segments)), (.sl 7 (List.map rRoute a.Routes)), v40, (.sl 4 (List.map rClass a.Classes)), (.sl 8 (List.map rRule a.Rules))]])), (some (.rows g47 8 [[(.sl 2 (List.map rVolume a.Volumes)), (.sl 5 (List.map rSector a.Sectors)), (.sl 3 (List.map rConfig a.Configs)), (.sl 5 (List.map rSegment a.Segments)), (.sl 7 (List.map rRoute a.Routes)), v41, (.sl 4 (List.map rClass a.Classes)), (.sl 8 (List.map rRule a.Rules))]])), (ownO v40 g54 2 (List.map rAirport l2)), (ownO v41 g55 2 (List.set (List.map rAirport a.Airports) (Int.tmod (IntKind.wrap .i64 b) (a.Airports.length : Int)).toNat [(.str a16.Name), v47])), (ownO v47 g61 2 (List.map rMode (a16.Modes ++ [({ Name := [109], Places := 1 } : Mode), ({ Name := [109], Places := 2 } : Mode)]))), none, none] rfl ?_
                                  refine wr_fm [(some (.rows g 8 [(rAirspace a)])), none, none, none, (ownO v33 g41 8 (List.map rAirspace x5)), none, none, none, none, none, none, none, none, none, none, (some (.rows g46 8 [[(.sl 2 (List.map rVolume a.Volumes)), (.sl 5 (List.map rSector a.Sectors)), (.sl 3 (List.map rConfig a.Configs)), (.sl 5 (List.map rSegment a.Segments)), (.sl 7 (List.map rRoute a.Routes)), v40, (.sl 4 (List.map rClass a.Classes)), (.sl 8 (List.map rRule a.Rules))]])), (some (.rows g47 8 [[(.sl 2 (List.map rVolume a.Volumes)), (.sl 5 (List.map rSector a.Sectors)), (.sl 3 (List.map rConfig a.Configs)), (.sl 5 (List.map rSegment a.Segments)), (.sl 7 (List.map rRoute a.Routes)), v41, (.sl 4 (List.map rClass a.Classes)), (.sl 8 (List.map rRule a.Rules))]])), (ownO v40 g54 2 (List.map rAirport l2)), (ownO v41 g55 2 (List.map rAirport (a.Airports.set (Int.tmod (IntKind.wrap .i64 b) (a.Airports.length : Int)).toNat { a16 with Modes := (a16.Modes ++ [({ Name := [109], Places := 1 } : Mode), ({ Name := [109], Places := 2 } : Mode)]) }))), none, none, none] [(8, v33), (22, (.ptr (ix ids 15) g46 0 0)), (23, (.ptr (ix ids 16) g47 0 0))] hI rfl (.keep (.keep (.keep (.keep (.keep (.keep (.keep (.keep (.keep (.keep (.keep (.keep (.keep (.keep (.keep (.keep (.keep (.keep (.own (fun x => ok_Airport x) (.cons (.same _) (.cons (own_fz vH49 (hI.at rfl rfl) (hI.at rfl rfl) (fun x => ok_Mode x)) .nil)) (.drop (.keep (.keep .nil)))))))))))))))))))))) (.cons (.same _) (.cons (.same _) (.cons (.same _) .nil))) ?_
                                  have vH50 := OwnV.set (i := (Int.tmod (IntKind.wrap .i64 b) (a.Airports.length : Int)).toNat) (y := { a16 with Modes := (a16.Modes ++ [({ Name := [109], Places := 1 } : Mode), ({ Name := [109], Places := 2 } : Mode)]) }) vH41
                                  refine wr_drop [none, none, none, none, (ownO v33 g41 8 (List.map rAirspace x5)), none, none, none, none, none, none, none, none, none, none, (some (.rows g46 8 [[(.sl 2 (List.map rVolume a.Volumes)), (.sl 5 (List.map rSector a.Sectors)), (.sl 3 (List.map rConfig a.Configs)), (.sl 5 (List.map rSegment a.Segments)), (.sl 7 (List.map rRoute a.Routes)), v40, (.sl 4 (List.map rClass a.Classes)), (.sl 8 (List.map rRule a.Rules))]])), (some (.rows g47 8 [[(.sl 2 (List.map rVolume a.Volumes)), (.sl 5 (List.map rSector a.Sectors)), (.sl 3 (List.map rConfig a.Configs)), (.sl 5 (List.map rSegment a.Segments)), (.sl 7 (List.map rRoute a.Routes)), v41, (.sl 4 (List.map rClass a.Classes)), (.sl 8 (List.map rRule a.Rules))]])), (ownO v40 g54 2 (List.map rAirport l2)), (ownO v41 g55 2 (List.map rAirport (a.Airports.set (Int.tmod (IntKind.wrap .i64 b) (a.Airports.length : Int)).toNat { a16 with Modes := (a16.Modes ++ [({ Name := [109], Places := 1 } : Mode), ({ Name := [109], Places := 2 } : Mode)]) }))), none, none, none] hI rfl (.drop (.keep (.keep (.keep (.keep (.keep (.keep (.keep (.keep (.keep (.keep (.keep (.keep (.keep (.keep (.keep (.keep (.keep (.keep (.keep (.keep (.keep .nil)))))))))))))))))))))) ?_
                                  refine wr_is [(8, v33), (22, (.ptr (ix ids 15) g46 0 0)), (23, (.ptr (ix ids 16) g47 0 0))] (.cons rfl (.cons rfl (.cons rfl .nil))) ?_
                                  refine hJ2 (a.Airports.set (Int.tmod (IntKind.wrap .i64 b) (a.Airports.length : Int)).toNat { a16 with Modes := (a16.Modes ++ [({ Name := [109], Places := 1 } : Mode), ({ Name := [109], Places := 2 } : Mode)]) }) _ _ ?_
                                  exact ⟨v41, g55, vH50, rfl, rfl⟩
                          · refine wr_drawT hmix (.node 13 3 (.leaf [[], [], [1], [0, 1, 2], [], [4], [], [], [6, 7], [4, 5, 6, 7, 8], [4, 5, 6, 7, 8, 9], [4, 5, 6, 7, 8, 9, 10], [4, 5, 6, 7, 8, 9, 10, 11], [0, 1, 2, 3, 4, 5, 6, 7, 8, 9, 10, 11, 12], [0, 1, 2, 3, 4, 5, 6, 7, 8, 9, 10, 11, 12, 13], [0, 1, 2, 3, 4, 5, 6, 7, 8, 9, 10, 11, 12, 13, 14], [0, 1, 2, 3, 4, 5, 6, 7, 8, 9, 10, 11, 12, 13, 14, 14, 14, 15]] [(false, 1), (false, 2), (false, 4), (false, 5), (false, 6), (false, 7), (false, 8), (false, 9), (false, 10), (false, 11), (false, 12), (true, 0), (true, 3), (true, 13), (true, 14), (false, 15), (true, 16)]) (.node 13 0 (.leaf [[], [], [1], [0, 1, 2, 4, 5, 6, 7, 8, 9, 10, 11, 12, 13], [], [4], [], [], [6, 7], [4, 5, 6, 7, 8], [4, 5, 6, 7, 8, 9], [4, 5, 6, 7, 8, 9, 10], [4, 5, 6, 7, 8, 9, 10, 11], [0, 4, 5, 6, 7, 8, 9, 10, 11, 12], [0, 1, 2, 3, 4, 5, 6, 7, 8, 9, 10, 11, 12, 13], [0, 1, 2, 3, 4, 5, 6, 7, 8, 9, 10, 11, 12, 13, 14], [0, 1, 2, 3, 4, 5, 6, 7, 8, 9, 10, 11, 12, 13, 14, 14, 14, 15]] [(false, 1), (false, 2), (false, 4), (false, 5), (false, 6), (false, 7), (false, 8), (false, 9), (false, 10), (false, 11), (false, 12), (true, 0), (true, 13), (true, 3), (true, 14), (false, 15), (true, 16)]) (.leaf [[4, 5, 6, 7, 8, 9, 10, 11, 12, 13], [], [1], [0, 1, 2, 4, 5, 6, 7, 8, 9, 10, 11, 12, 13], [], [4], [], [], [6, 7], [4, 5, 6, 7, 8], [4, 5, 6, 7, 8, 9], [4, 5, 6, 7, 8, 9, 10], [4, 5, 6, 7, 8, 9, 10, 11], [4, 5, 6, 7, 8, 9, 10, 11, 12], [0, 1, 2, 3, 4, 5, 6, 7, 8, 9, 10, 11, 12, 13], [0, 1, 2, 3, 4, 5, 6, 7, 8, 9, 10, 11, 12, 13, 14], [0, 1, 2, 3, 4, 5, 6, 7, 8, 9, 10, 11, 12, 13, 14, 14, 14, 15]] [(false, 1), (false, 2), (false, 4), (false, 5), (false, 6), (false, 7), (false, 8), (false, 9), (false, 10), (false, 11), (false, 12), (true, 13), (true, 0), (true, 3), (true, 14), (false, 15), (true, 16)]))) (by kernel_rfl) ?_
                            refine dt_node ?_ ?_
                            · refine dt_leaf ?_
                              refine wp_val (.ptr (ix ids 0) g 0 5) rfl rfl (pv_fa (fa_ptr (c := 0) (off := 5) (i := 5) ti31 rfl ti27 rfl)) ?_
                              refine wp_val (.sl 2 (List.map rAirport a.Airports)) rfl rfl (pv_load (ld_ptr hI rfl rfl rfl ti27 rfl)) ?_
                              refine wp_val (.ptr (ix ids 0) g 0 5) rfl rfl (pv_fa (fa_ptr (c := 0) (off := 5) (i := 5) ti31 rfl ti27 rfl)) ?_
                              refine wp_val (.sl 2 (List.map rAirport a.Airports)) rfl rfl (pv_load (ld_ptr hI rfl rfl rfl ti27 rfl)) ?_
                              refine wp_val (.int .i64 (IntKind.wrap .i64 b)) rfl rfl pv_move ?_
                              refine wp_val (.int .i64 (a.Airports.length : Int)) rfl rfl pv_move ?_
                              refine op_need fun hz20 => ?_
                              refine wp_val (.int .i64 (Int.tmod (IntKind.wrap .i64 b) (a.Airports.length : Int))) rfl rfl (pv_bin rfl rfl (bin_rem rfl hz20)) ?_
                              refine op_idx fun a11 hz21 hx11 => ?_
                              refine wp_val (.cp (rAirport a11) 0) rfl rfl (pv_ixa (ixa_sl ti27 ti46 rfl hz21 hx11)) ?_
                              refine wp_val (.cp (rAirport a11) 0) rfl rfl (pv_fa (fa_cp (c := 0) (off := 0) (i := 0) ti46 rfl ti9 rfl)) ?_
                              refine wp_val (.str a11.Name) rfl rfl (pv_load (ld_cp ti9 rfl)) ?_
                              refine wp_val (.agg [(.str a11.Name), .emp]) rfl rfl (pv_build (bd_st ti46 pl46 rfl)) ?_
                              refine wp_op rfl rfl (fun _ _ => rfl) (fun K hK => eff_bs0 ti27 ti46 (hK _ _ (pend_no rfl (pv_build (bd_st ti46 pl46 rfl)) (pend_no rfl (pv_load (ld_cp ti9 rfl)) (pend_no rfl (pv_fa (fa_cp (c := 0) (off := 0) (i := 0) ti46 rfl ti9 rfl)) (pend_no rfl (pv_ixa (ixa_sl ti27 ti46 rfl hz21 hx11)) (pend_no rfl (pv_bin rfl rfl (bin_rem rfl hz20)) (pend_no rfl pv_move (pend_no rfl pv_move (pend_no rfl (pv_load (ld_ptr hI rfl rfl rfl ti27 rfl)) (pend_no rfl (pv_fa (fa_ptr (c := 0) (off := 5) (i := 5) ti31 rfl ti27 rfl)) (pend_no rfl (pv_load (ld_ptr hI rfl rfl rfl ti27 rfl)) (pend_no rfl (pv_fa (fa_ptr (c := 0) (off := 5) (i := 5) ti31 rfl ti27 rfl)) pend_nil))))))))))) ?_)) 
                              clear hK K
                              refine op_need fun hl22 => ?_
                              refine wp_op rfl rfl (fun _ _ => rfl) (fun K hK => eff_append (e := rAirport) (L := ([] : List Airport)) (L2 := a.Airports) (v := .emp) (g := 0) (st := 2) (j := 17) hI rfl rfl rfl .nil rfl (src_sl rfl) ti27 ti27 rfl ti46 rfl rfl rfl (by simpa using hl22) fun v34 g48 vH34 => hK _ _ (pend_no rfl (pv_build (bd_st ti46 pl46 rfl)) (pend_no rfl (pv_load (ld_cp ti9 rfl)) (pend_no rfl (pv_fa (fa_cp (c := 0) (off := 0) (i := 0) ti46 rfl ti9 rfl)) (pend_no rfl (pv_ixa (ixa_sl ti27 ti46 rfl hz21 hx11)) (pend_no rfl (pv_bin rfl rfl (bin_rem rfl hz20)) (pend_no rfl pv_move (pend_no rfl pv_move (pend_no rfl (pv_load (ld_ptr hI rfl rfl rfl ti27 rfl)) (pend_no rfl (pv_fa (fa_ptr (c := 0) (off := 5) (i := 5) ti31 rfl ti27 rfl)) (pend_yes rfl (pend_yes rfl pend_nil))))))))))) ?_) 
                              clear hK K
                              refine wp_op rfl rfl (fun _ _ => rfl) (fun K hK => eff_bsC (e := rAirport) (L := [({ Name := a11.Name, Modes := [] } : Airport)]) (st := 2) (rows := [[(.str a11.Name), .emp]]) ti27 ti46 rfl rfl rfl rfl rfl (.cons (.cons (.same _) (.cons (.emp _) .nil)) .nil) (fun x => ok_Airport x) rfl rfl (hK _ _ (pend_yes rfl (pend_yes rfl (pend_yes rfl (pend_yes rfl (pend_yes rfl (pend_yes rfl (pend_yes rfl (pend_yes rfl (pend_yes rfl (pend_yes rfl (pend_yes rfl pend_nil))))))))))) ?_)) 
                              clear hK K
                              refine op_need fun hl23 => ?_
                              refine wp_op rfl rfl (fun _ _ => rfl) (fun K hK => eff_append (e := rAirport) (L := a.Airports) (L2 := [({ Name := a11.Name, Modes := [] } : Airport)]) (v := v34) (g := g48) (st := 2) (j := 17) hI rfl rfl rfl vH34 rfl (src_sl rfl) ti27 ti27 rfl ti46 rfl rfl rfl hl23 fun v35 g49 vH35 => hK _ _ (pend_yes rfl (pend_yes rfl (pend_yes rfl (pend_yes rfl (pend_yes rfl (pend_yes rfl (pend_yes rfl (pend_yes rfl (pend_yes rfl (pend_yes rfl (pend_yes rfl pend_nil))))))))))) ?_) 
                              clear hK K
                              refine wp_val (.ptr (ix ids 15) g46 0 5) rfl rfl (pv_fa (fa_ptr (c := 0) (off := 5) (i := 5) ti31 rfl ti27 rfl)) ?_
                              refine wp_op0 rfl (fun _ _ => rfl) (fun K hK => eff_store (st_ptrO vH35 hI rfl rfl rfl rfl ti27 rfl rfl rfl) (hK _ _ (pend_yes rfl (pend_yes rfl (pend_yes rfl (pend_yes rfl (pend_yes rfl (pend_yes rfl (pend_yes rfl (pend_yes rfl (pend_yes rfl (pend_yes rfl (pend_yes rfl (pend_yes rfl pend_nil)))))))))))) ?_)) 
                              clear hK K
                              refine wp_nil ?_
                              refine wr_hp [(some (.rows g 8 [(rAirspace a)])), none, none, none, (ownO v33 g41 8 (List.map rAirspace x5)), none, none, none, none, none, none, none, none, none, none, (some (.rows g46 8 [[(.sl 2 (List.map rVolume a.Volumes)), (.sl 5 (List.map rSector a.Sectors)), (.sl 3 (List.map rConfig a.Configs)), (.sl 5 (List.map rSegment a.Segments)), (.sl 7 (List.map rRoute a.Routes)), v35, (.sl 4 (List.map rClass a.Classes)), (.sl 8 (List.map rRule a.Rules))]])), (some (.rows g47 8 [(rAirspace a)])), (ownO v35 g49 2 (List.map rAirport (a.Airports ++ [({ Name := a11.Name, Modes := [] } : Airport)]))), none, none, none, none] rfl ?_
                              refine wr_is [(2, (.ptr (ix ids 0) g 0 0)), (7, (.int .i64 (IntKind.wrap .i64 b))), (8, v33), (21, (.int .i64 (a.Airports.length : Int))), (22, (.ptr (ix ids 15) g46 0 0)), (23, (.ptr (ix ids 16) g47 0 0))] (.cons rfl (.cons rfl (.cons rfl (.cons rfl (.cons rfl (.cons rfl .nil)))))) ?_
                              refine hJ3 (a.Airports ++ [({ Name := a11.Name, Modes := [] } : Airport)]) _ _ ?_
                              exact ⟨v35, g49, vH35, rfl, rfl⟩
                            · refine dt_node ?_ ?_
                              · refine dt_leaf ?_
                                refine wp_val (.ptr (ix ids 0) g 0 5) rfl rfl (pv_fa (fa_ptr (c := 0) (off := 5) (i := 5) ti31 rfl ti27 rfl)) ?_
                                refine wp_val (.sl 2 (List.map rAirport a.Airports)) rfl rfl (pv_load (ld_ptr hI rfl rfl rfl ti27 rfl)) ?_
                                refine wp_val (.ptr (ix ids 0) g 0 5) rfl rfl (pv_fa (fa_ptr (c := 0) (off := 5) (i := 5) ti31 rfl ti27 rfl)) ?_
                                refine wp_val (.sl 2 (List.map rAirport a.Airports)) rfl rfl (pv_load (ld_ptr hI rfl rfl rfl ti27 rfl)) ?_
                                refine wp_val (.int .i64 (IntKind.wrap .i64 b)) rfl rfl pv_move ?_
                                refine wp_val (.int .i64 (a.Airports.length : Int)) rfl rfl pv_move ?_
                                refine op_need fun hz22 => ?_
                                refine wp_val (.int .i64 (Int.tmod (IntKind.wrap .i64 b) (a.Airports.length : Int))) rfl rfl (pv_bin rfl rfl (bin_rem rfl hz22)) ?_
                                refine op_idx fun a12 hz23 hx12 => ?_
                                refine wp_val (.cp (rAirport a12) 0) rfl rfl (pv_ixa (ixa_sl ti27 ti46 rfl hz23 hx12)) ?_
                                refine wp_val (.cp (rAirport a12) 0) rfl rfl (pv_fa (fa_cp (c := 0) (off := 0) (i := 0) ti46 rfl ti9 rfl)) ?_
                                refine wp_val (.str a12.Name) rfl rfl (pv_load (ld_cp ti9 rfl)) ?_
                                refine wp_val (.agg [(.str a12.Name), .emp]) rfl rfl (pv_build (bd_st ti46 pl46 rfl)) ?_
                                refine wp_op rfl rfl (fun _ _ => rfl) (fun K hK => eff_bs0 ti27 ti46 (hK _ _ (pend_no rfl (pv_build (bd_st ti46 pl46 rfl)) (pend_no rfl (pv_load (ld_cp ti9 rfl)) (pend_no rfl (pv_fa (fa_cp (c := 0) (off := 0) (i := 0) ti46 rfl ti9 rfl)) (pend_no rfl (pv_ixa (ixa_sl ti27 ti46 rfl hz23 hx12)) (pend_no rfl (pv_bin rfl rfl (bin_rem rfl hz22)) (pend_no rfl pv_move (pend_no rfl pv_move (pend_no rfl (pv_load (ld_ptr hI rfl rfl rfl ti27 rfl)) (pend_no rfl (pv_fa (fa_ptr (c := 0) (off := 5) (i := 5) ti31 rfl ti27 rfl)) (pend_no rfl (pv_load (ld_ptr hI rfl rfl rfl ti27 rfl)) (pend_no rfl (pv_fa (fa_ptr (c := 0) (off := 5) (i := 5) ti31 rfl ti27 rfl)) pend_nil))))))))))) ?_)) 
                                clear hK K
                                refine wp_op rfl rfl (fun _ _ => rfl) (fun K hK => eff_bsC (e := rAirport) (L := [({ Name := a12.Name, Modes := [] } : Airport)]) (st := 2) (rows := [[(.str a12.Name), .emp]]) ti27 ti46 rfl rfl rfl rfl rfl (.cons (.cons (.same _) (.cons (.emp _) .nil)) .nil) (fun x => ok_Airport x) rfl rfl (hK _ _ (pend_yes rfl (pend_yes rfl (pend_yes rfl (pend_yes rfl (pend_yes rfl (pend_yes rfl (pend_yes rfl (pend_yes rfl (pend_yes rfl (pend_no rfl (pv_load (ld_ptr hI rfl rfl rfl ti27 rfl)) (pend_no rfl (pv_fa (fa_ptr (c := 0) (off := 5) (i := 5) ti31 rfl ti27 rfl)) pend_nil))))))))))) ?_)) 
                                clear hK K
                                refine op_need fun hl24 => ?_
                                refine wp_op rfl rfl (fun _ _ => rfl) (fun K hK => eff_append (e := rAirport) (L := ([] : List Airport)) (L2 := a.Airports) (v := .emp) (g := 0) (st := 2) (j := 17) hI rfl rfl rfl .nil rfl (src_sl rfl) ti27 ti27 rfl ti46 rfl rfl rfl (by simpa using hl24) fun v36 g50 vH36 => hK _ _ (pend_yes rfl (pend_yes rfl (pend_yes rfl (pend_yes rfl (pend_yes rfl (pend_yes rfl (pend_yes rfl (pend_yes rfl (pend_yes rfl (pend_yes rfl (pend_yes rfl pend_nil))))))))))) ?_) 
                                clear hK K
                                refine op_need fun hl25 => ?_
                                refine wp_op rfl rfl (fun _ _ => rfl) (fun K hK => eff_append (e := rAirport) (L := a.Airports) (L2 := [({ Name := a12.Name, Modes := [] } : Airport)]) (v := v36) (g := g50) (st := 2) (j := 17) hI rfl rfl rfl vH36 rfl (src_sl rfl) ti27 ti27 rfl ti46 rfl rfl rfl hl25 fun v37 g51 vH37 => hK _ _ (pend_yes rfl (pend_yes rfl (pend_yes rfl (pend_yes rfl (pend_yes rfl (pend_yes rfl (pend_yes rfl (pend_yes rfl (pend_yes rfl (pend_yes rfl (pend_yes rfl pend_nil))))))))))) ?_) 
                                clear hK K
                                refine wp_val (.ptr (ix ids 15) g46 0 5) rfl rfl (pv_fa (fa_ptr (c := 0) (off := 5) (i := 5) ti31 rfl ti27 rfl)) ?_
                                refine wp_op0 rfl (fun _ _ => rfl) (fun K hK => eff_store (st_ptrO vH37 hI rfl rfl rfl rfl ti27 rfl rfl rfl) (hK _ _ (pend_yes rfl (pend_yes rfl (pend_yes rfl (pend_yes rfl (pend_yes rfl (pend_yes rfl (pend_yes rfl (pend_yes rfl (pend_yes rfl (pend_yes rfl (pend_yes rfl (pend_yes rfl pend_nil)))))))))))) ?_)) 
                                clear hK K
                                refine wp_nil ?_
                                refine wr_hp [(some (.rows g 8 [(rAirspace a)])), none, none, none, (ownO v33 g41 8 (List.map rAirspace x5)), none, none, none, none, none, none, none, none, none, none, (some (.rows g46 8 [[(.sl 2 (List.map rVolume a.Volumes)), (.sl 5 (List.map rSector a.Sectors)), (.sl 3 (List.map rConfig a.Configs)), (.sl 5 (List.map rSegment a.Segments)), (.sl 7 (List.map rRoute a.Routes)), v37, (.sl 4 (List.map rClass a.Classes)), (.sl 8 (List.map rRule a.Rules))]])), (some (.rows g47 8 [(rAirspace a)])), (ownO v37 g51 2 (List.map rAirport (a.Airports ++ [({ Name := a12.Name, Modes := [] } : Airport)]))), none, none, none, none] rfl ?_
                                refine wr_is [(2, (.ptr (ix ids 0) g 0 0)), (7, (.int .i64 (IntKind.wrap .i64 b))), (8, v33), (21, (.int .i64 (a.Airports.length : Int))), (22, (.ptr (ix ids 15) g46 0 0)), (23, (.ptr (ix ids 16) g47 0 0))] (.cons rfl (.cons rfl (.cons rfl (.cons rfl (.cons rfl (.cons rfl .nil)))))) ?_
                                refine hJ3 (a.Airports ++ [({ Name := a12.Name, Modes := [] } : Airport)]) _ _ ?_
                                exact ⟨v37, g51, vH37, rfl, rfl⟩
                              · refine dt_leaf ?_
                                refine wp_val (.ptr (ix ids 0) g 0 5) rfl rfl (pv_fa (fa_ptr (c := 0) (off := 5) (i := 5) ti31 rfl ti27 rfl)) ?_
                                refine wp_val (.sl 2 (List.map rAirport a.Airports)) rfl rfl (pv_load (ld_ptr hI rfl rfl rfl ti27 rfl)) ?_
                                refine wp_val (.ptr (ix ids 0) g 0 5) rfl rfl (pv_fa (fa_ptr (c := 0) (off := 5) (i := 5) ti31 rfl ti27 rfl)) ?_
                                refine wp_val (.sl 2 (List.map rAirport a.Airports)) rfl rfl (pv_load (ld_ptr hI rfl rfl rfl ti27 rfl)) ?_
                                refine wp_val (.int .i64 (IntKind.wrap .i64 b)) rfl rfl pv_move ?_
                                refine wp_val (.int .i64 (a.Airports.length : Int)) rfl rfl pv_move ?_
                                refine op_need fun hz24 => ?_
                                refine wp_val (.int .i64 (Int.tmod (IntKind.wrap .i64 b) (a.Airports.length : Int))) rfl rfl (pv_bin rfl rfl (bin_rem rfl hz24)) ?_
                                refine op_idx fun a13 hz25 hx13 => ?_
                                refine wp_val (.cp (rAirport a13) 0) rfl rfl (pv_ixa (ixa_sl ti27 ti46 rfl hz25 hx13)) ?_
                                refine wp_val (.cp (rAirport a13) 0) rfl rfl (pv_fa (fa_cp (c := 0) (off := 0) (i := 0) ti46 rfl ti9 rfl)) ?_
                                refine wp_val (.str a13.Name) rfl rfl (pv_load (ld_cp ti9 rfl)) ?_
                                refine wp_val (.agg [(.str a13.Name), .emp]) rfl rfl (pv_build (bd_st ti46 pl46 rfl)) ?_
                                refine wp_op rfl rfl (fun _ _ => rfl) (fun K hK => eff_bsC (e := rAirport) (L := [({ Name := a13.Name, Modes := [] } : Airport)]) (st := 2) (rows := [[(.str a13.Name), .emp]]) ti27 ti46 rfl rfl rfl rfl rfl (.cons (.cons (.same _) (.cons (.emp _) .nil)) .nil) (fun x => ok_Airport x) rfl rfl (hK _ _ (pend_yes rfl (pend_yes rfl (pend_yes rfl (pend_yes rfl (pend_yes rfl (pend_yes rfl (pend_yes rfl (pend_yes rfl (pend_yes rfl (pend_no rfl (pv_load (ld_ptr hI rfl rfl rfl ti27 rfl)) (pend_no rfl (pv_fa (fa_ptr (c := 0) (off := 5) (i := 5) ti31 rfl ti27 rfl)) pend_nil))))))))))) ?_)) 
                                clear hK K
                                refine wp_op rfl rfl (fun _ _ => rfl) (fun K hK => eff_bs0 ti27 ti46 (hK _ _ (pend_yes rfl (pend_yes rfl (pend_yes rfl (pend_yes rfl (pend_yes rfl (pend_yes rfl (pend_yes rfl (pend_yes rfl (pend_yes rfl (pend_no rfl (pv_load (ld_ptr hI rfl rfl rfl ti27 rfl)) (pend_no rfl (pv_fa (fa_ptr (c := 0) (off := 5) (i := 5) ti31 rfl ti27 rfl)) pend_nil))))))))))) ?_)) 
                                clear hK K
                                refine op_need fun hl26 => ?_
                                refine wp_op rfl rfl (fun _ _ => rfl) (fun K hK => eff_append (e := rAirport) (L := ([] : List Airport)) (L2 := a.Airports) (v := .emp) (g := 0) (st := 2) (j := 17) hI rfl rfl rfl .nil rfl (src_sl rfl) ti27 ti27 rfl ti46 rfl rfl rfl (by simpa using hl26) fun v38 g52 vH38 => hK _ _ (pend_yes rfl (pend_yes rfl (pend_yes rfl (pend_yes rfl (pend_yes rfl (pend_yes rfl (pend_yes rfl (pend_yes rfl (pend_yes rfl (pend_yes rfl (pend_yes rfl pend_nil))))))))))) ?_) 
                                clear hK K
                                refine op_need fun hl27 => ?_
                                refine wp_op rfl rfl (fun _ _ => rfl) (fun K hK => eff_append (e := rAirport) (L := a.Airports) (L2 := [({ Name := a13.Name, Modes := [] } : Airport)]) (v := v38) (g := g52) (st := 2) (j := 17) hI rfl rfl rfl vH38 rfl (src_sl rfl) ti27 ti27 rfl ti46 rfl rfl rfl hl27 fun v39 g53 vH39 => hK _ _ (pend_yes rfl (pend_yes rfl (pend_yes rfl (pend_yes rfl (pend_yes rfl (pend_yes rfl (pend_yes rfl (pend_yes rfl (pend_yes rfl (pend_yes rfl (pend_yes rfl pend_nil))))))))))) ?_) 
                                clear hK K
                                refine wp_val (.ptr (ix ids 15) g46 0 5) rfl rfl (pv_fa (fa_ptr (c := 0) (off := 5) (i := 5) ti31 rfl ti27 rfl)) ?_
                                refine wp_op0 rfl (fun _ _ => rfl) (fun K hK => eff_store (st_ptrO vH39 hI rfl rfl rfl rfl ti27 rfl rfl rfl) (hK _ _ (pend_yes rfl (pend_yes rfl (pend_yes rfl (pend_yes rfl (pend_yes rfl (pend_yes rfl (pend_yes rfl (pend_yes rfl (pend_yes rfl (pend_yes rfl (pend_yes rfl (pend_yes rfl pend_nil)))))))))))) ?_)) 
                                clear hK K
                                refine wp_nil ?_
                                refine wr_hp [(some (.rows g 8 [(rAirspace a)])), none, none, none, (ownO v33 g41 8 (List.map rAirspace x5)), none, none, none, none, none, none, none, none, none, none, (some (.rows g46 8 [[(.sl 2 (List.map rVolume a.Volumes)), (.sl 5 (List.map rSector a.Sectors)), (.sl 3 (List.map rConfig a.Configs)), (.sl 5 (List.map rSegment a.Segments)), (.sl 7 (List.map rRoute a.Routes)), v39, (.sl 4 (List.map rClass a.Classes)), (.sl 8 (List.map rRule a.Rules))]])), (some (.rows g47 8 [(rAirspace a)])), (ownO v39 g53 2 (List.map rAirport (a.Airports ++ [({ Name := a13.Name, Modes := [] } : Airport)]))), none, none, none, none] rfl ?_
                                refine wr_is [(2, (.ptr (ix ids 0) g 0 0)), (7, (.int .i64 (IntKind.wrap .i64 b))), (8, v33), (21, (.int .i64 (a.Airports.length : Int))), (22, (.ptr (ix ids 15) g46 0 0)), (23, (.ptr (ix ids 16) g47 0 0))] (.cons rfl (.cons rfl (.cons rfl (.cons rfl (.cons rfl (.cons rfl .nil)))))) ?_
                                refine hJ3 (a.Airports ++ [({ Name := a13.Name, Modes := [] } : Airport)]) _ _ ?_
                                exact ⟨v39, g53, vH39, rfl, rfl⟩
                        · refine wr_drawT hmix (.node 3 2 (.leaf [[], [], [], [2], [0, 0, 2, 2, 3], [0, 1, 1, 2, 3, 3, 4, 4]] [(false, 0), (false, 1), (true, 2), (true, 3), (true, 4), (true, 5)]) (.leaf [[], [], [3], [], [0, 0, 2, 2, 3], [0, 1, 1, 2, 3, 3, 4, 4]] [(false, 0), (false, 1), (true, 3), (true, 2), (true, 4), (true, 5)])) (by kernel_rfl) ?_
                          refine dt_node ?_ ?_
                          · refine dt_leaf ?_
                            refine wp_val (.agg (rAirspace a)) rfl rfl (pv_load (ld_ptr hI rfl rfl rfl ti31 rfl)) ?_
                            refine wp_val (.agg (rAirspace a)) rfl rfl (pv_load (ld_ptr hI rfl rfl rfl ti31 rfl)) ?_
                            refine wp_op rfl rfl (fun _ _ => rfl) (fun K hK => eff_alloc (j := 15) hI rfl rfl rfl ti31 rfl fun g42 => hK _ _ (pend_no rfl (pv_load (ld_ptr hI rfl rfl rfl ti31 rfl)) (pend_no rfl (pv_load (ld_ptr hI rfl rfl rfl ti31 rfl)) pend_nil)) ?_) 
                            clear hK K
                            refine wp_op rfl rfl (fun _ _ => rfl) (fun K hK => eff_alloc (j := 16) hI rfl rfl rfl ti31 rfl fun g43 => hK _ _ (pend_no rfl (pv_load (ld_ptr hI rfl rfl rfl ti31 rfl)) (pend_no rfl (pv_load (ld_ptr hI rfl rfl rfl ti31 rfl)) pend_nil)) ?_) 
                            clear hK K
                            refine wp_op0 rfl (fun _ _ => rfl) (fun K hK => eff_store (st_ptr hI rfl rfl rfl rfl ti31 rfl rfl rfl rfl rfl) (hK _ _ (pend_no rfl (pv_load (ld_ptr hI rfl rfl rfl ti31 rfl)) (pend_yes rfl pend_nil)) ?_)) 
                            clear hK K
                            refine wp_op0 rfl (fun _ _ => rfl) (fun K hK => eff_store (st_ptr hI rfl rfl rfl rfl ti31 rfl rfl rfl rfl rfl) (hK _ _ (pend_yes rfl (pend_yes rfl pend_nil)) ?_)) 
                            clear hK K
                            refine wp_nil ?_
                            refine wr_hp [(some (.rows g 8 [(rAirspace a)])), none, none, none, (ownO v33 g41 8 (List.map rAirspace x5)), none, none, none, none, none, none, none, none, none, none, (some (.rows g42 8 [(rAirspace a)])), (some (.rows g43 8 [(rAirspace a)])), none, none, none, none, none] rfl ?_
                            refine wr_is [(2, (.ptr (ix ids 0) g 0 0)), (7, (.int .i64 (IntKind.wrap .i64 b))), (8, v33), (21, (.int .i64 (a.Airports.length : Int))), (22, (.ptr (ix ids 15) g42 0 0)), (23, (.ptr (ix ids 16) g43 0 0))] (.cons rfl (.cons rfl (.cons rfl (.cons rfl (.cons rfl (.cons rfl .nil)))))) ?_
                            refine hJ4 () _ _ ?_
                            exact ⟨g42, g43, rfl, rfl⟩
                          · refine dt_leaf ?_
                            refine wp_val (.agg (rAirspace a)) rfl rfl (pv_load (ld_ptr hI rfl rfl rfl ti31 rfl)) ?_
                            refine wp_val (.agg (rAirspace a)) rfl rfl (pv_load (ld_ptr hI rfl rfl rfl ti31 rfl)) ?_
                            refine wp_op rfl rfl (fun _ _ => rfl) (fun K hK => eff_alloc (j := 16) hI rfl rfl rfl ti31 rfl fun g44 => hK _ _ (pend_no rfl (pv_load (ld_ptr hI rfl rfl rfl ti31 rfl)) (pend_no rfl (pv_load (ld_ptr hI rfl rfl rfl ti31 rfl)) pend_nil)) ?_) 
                            clear hK K
                            refine wp_op rfl rfl (fun _ _ => rfl) (fun K hK => eff_alloc (j := 15) hI rfl rfl rfl ti31 rfl fun g45 => hK _ _ (pend_no rfl (pv_load (ld_ptr hI rfl rfl rfl ti31 rfl)) (pend_no rfl (pv_load (ld_ptr hI rfl rfl rfl ti31 rfl)) pend_nil)) ?_) 
                            clear hK K
                            refine wp_op0 rfl (fun _ _ => rfl) (fun K hK => eff_store (st_ptr hI rfl rfl rfl rfl ti31 rfl rfl rfl rfl rfl) (hK _ _ (pend_no rfl (pv_load (ld_ptr hI rfl rfl rfl ti31 rfl)) (pend_yes rfl pend_nil)) ?_)) 
                            clear hK K
                            refine wp_op0 rfl (fun _ _ => rfl) (fun K hK => eff_store (st_ptr hI rfl rfl rfl rfl ti31 rfl rfl rfl rfl rfl) (hK _ _ (pend_yes rfl (pend_yes rfl pend_nil)) ?_)) 
                            clear hK K
                            refine wp_nil ?_
                            refine wr_hp [(some (.rows g 8 [(rAirspace a)])), none, none, none, (ownO v33 g41 8 (List.map rAirspace x5)), none, none, none, none, none, none, none, none, none, none, (some (.rows g45 8 [(rAirspace a)])), (some (.rows g44 8 [(rAirspace a)])), none, none, none, none, none] rfl ?_
                            refine wr_is [(2, (.ptr (ix ids 0) g 0 0)), (7, (.int .i64 (IntKind.wrap .i64 b))), (8, v33), (21, (.int .i64 (a.Airports.length : Int))), (22, (.ptr (ix ids 15) g45 0 0)), (23, (.ptr (ix ids 16) g44 0 0))] (.cons rfl (.cons rfl (.cons rfl (.cons rfl (.cons rfl (.cons rfl .nil)))))) ?_
                            refine hJ4 () _ _ ?_
                            exact ⟨g45, g44, rfl, rfl⟩
                      · refine wr_skip ?_
                        refine wr_drop [none, none, none, none, (ownO v33 g41 8 (List.map rAirspace x5)), none, none, none, none, none, none, none, none, none, none, none, none, none, none, none, none, none] hI rfl (.drop (.keep (.keep (.keep (.keep (.keep (.keep (.keep (.keep (.keep (.keep (.keep (.keep (.keep (.keep (.keep (.keep (.keep (.keep (.keep (.keep (.keep .nil)))))))))))))))))))))) ?_
                        refine wr_is [(8, v33)] (.cons rfl .nil) ?_
                        refine hJ5 x5 _ _ ?_
                        exact ⟨v33, g41, vH33, rfl, rfl⟩
                  · refine wf_ite rfl (fun hc8 => ?_) (fun hc8 => ?_)
                    · refine wr_seq ?_
                      refine wr_region ?_
                      refine wo_val (.agg (rAirspace a)) rfl (pv_load (ld_ptr hI rfl rfl rfl ti31 rfl)) ?_
                      refine wo_alloc (j := 13) hI rfl rfl rfl rfl ti31 rfl fun g32 => ?_
                      refine wo_store (st_ptr hI rfl rfl rfl rfl ti31 rfl rfl rfl rfl rfl) ?_
                      refine wo_nil ?_
                      refine wr_hp [(some (.rows g 8 [(rAirspace a)])), none, none, none, (ownO v24 g31 8 (List.map rAirspace x4)), none, none, none, none, none, none, none, none, (some (.rows g32 8 [(rAirspace a)])), none, none, none, none, none, none, none, none] rfl ?_
                      refine wr_seq ?_
                      refine wf_join (fun l1 => law09_NamesTwice_j2 a b r x4 l1) (fun l1 => fun (fr : Nat → AV) (h : AHeap) => ∃ (v31 : AV), ∃ (g39 : Nat), OwnV v31 (ix ids 14) g39 l1.length ∧ fr = frA [(2, (.ptr (ix ids 0) g 0 0)), (7, (.int .i64 (IntKind.wrap .i64 b))), (8, v24), (20, (.ptr (ix ids 13) g32 0 0))] ∧ h = hp h0 ids [(some (.rows g 8 [(rAirspace a)])), none, none, none, (ownO v24 g31 8 (List.map rAirspace x4)), none, none, none, none, none, none, none, none, (some (.rows g32 8 [[(.sl 2 (List.map rVolume a.Volumes)), (.sl 5 (List.map rSector a.Sectors)), (.sl 3 (List.map rConfig a.Configs)), (.sl 5 (List.map rSegment a.Segments)), (.sl 7 (List.map rRoute a.Routes)), (.sl 2 (List.map rAirport a.Airports)), v31, (.sl 8 (List.map rRule a.Rules))]])), (ownO v31 g39 4 (List.map rClass l1)), none, none, none, none, none, none, none]) ?_ fun hJ1 => ?_
                      · rintro l1 fr h ⟨v31, g39, vH31, rfl, rfl⟩
                        refine wr_mod (law09_NamesTwice_j2.eq_1 _ _ _ _ _) ?_
                        refine wr_region ?_
                        refine wo_val v24 rfl pv_move ?_
                        refine wo_val (.agg [(.sl 2 (List.map rVolume a.Volumes)), (.sl 5 (List.map rSector a.Sectors)), (.sl 3 (List.map rConfig a.Configs)), (.sl 5 (List.map rSegment a.Segments)), (.sl 7 (List.map rRoute a.Routes)), (.sl 2 (List.map rAirport a.Airports)), v31, (.sl 8 (List.map rRule a.Rules))]) rfl (pv_load (ld_ptr hI rfl rfl rfl ti31 rfl)) ?_
                        refine wo_frz (h2 := hp h0 ids [(some (.rows g 8 [(rAirspace a)])), none, none, none, (ownO v24 g31 8 (List.map rAirspace x4)), none, none, none, none, none, none, none, none, none, none, none, none, none, none, none, none, none]) [(2, (.ptr (ix ids 0) g 0 0)), (7, (.int .i64 (IntKind.wrap .i64 b))), (186, v24), (187, (.agg (rAirspace ({ Volumes := a.Volumes, Sectors := a.Sectors, Configs := a.Configs, Segments := a.Segments, Routes := a.Routes, Airports := a.Airports, Classes := l1, Rules := a.Rules } : Airspace))))] (Drops.sub (.keep (.keep (.keep (.keep (.keep (.keep (.keep (.keep (.keep (.keep (.keep (.keep (.keep (.drop (.drop (.keep (.keep (.keep (.keep (.keep (.keep (.keep .nil)))))))))))))))))))))) hI.len) (.cons (.same _) (.cons (.same _) (.cons (.same _) (.cons (.aggL (.cons (.same _) (.cons (.same _) (.cons (.same _) (.cons (.same _) (.cons (.same _) (.cons (.same _) (.cons (own_fz vH31 (hI.at rfl rfl) (hI.at rfl rfl) (fun x => ok_Class x)) (.cons (.same _) .nil))))))))) .nil)))) rfl rfl ?_
                        refine wo_bsC (e := rAirspace) (L := [({ Volumes := a.Volumes, Sectors := a.Sectors, Configs := a.Configs, Segments := a.Segments, Routes := a.Routes, Airports := a.Airports, Classes := l1, Rules := a.Rules } : Airspace)]) (st := 8) (rows := [[(.sl 2 (List.map rVolume ({ Volumes := a.Volumes, Sectors := a.Sectors, Configs := a.Configs, Segments := a.Segments, Routes := a.Routes, Airports := a.Airports, Classes := l1, Rules := a.Rules } : Airspace).Volumes)), (.sl 5 (List.map rSector ({ Volumes := a.Volumes, Sectors := a.Sectors, Configs := a.Configs, Segments := a.Segments, Routes := a.Routes, Airports := a.Airports, Classes := l1, Rules := a.Rules } : Airspace).Sectors)), (.sl 3 (List.map rConfig ({ Volumes := a.Volumes, Sectors := a.Sectors, Configs := a.Configs, Segments := a.Segments, Routes := a.Routes, Airports := a.Airports, Classes := l1, Rules := a.Rules } : Airspace).Configs)), (.sl 5 (List.map rSegment ({ Volumes := a.Volumes, Sectors := a.Sectors, Configs := a.Configs, Segments := a.Segments, Routes := a.Routes, Airports := a.Airports, Classes := l1, Rules := a.Rules } : Airspace).Segments)), (.sl 7 (List.map rRoute ({ Volumes := a.Volumes, Sectors := a.Sectors, Configs := a.Configs, Segments := a.Segments, Routes := a.Routes, Airports := a.Airports, Classes := l1, Rules := a.Rules } : Airspace).Routes)), (.sl 2 (List.map rAirport ({ Volumes := a.Volumes, Sectors := a.Sectors, Configs := a.Configs, Segments := a.Segments, Routes := a.Routes, Airports := a.Airports, Classes := l1, Rules := a.Rules } : Airspace).Airports)), (.sl 4 (List.map rClass ({ Volumes := a.Volumes, Sectors := a.Sectors, Configs := a.Configs, Segments := a.Segments, Routes := a.Routes, Airports := a.Airports, Classes := l1, Rules := a.Rules } : Airspace).Classes)), (.sl 8 (List.map rRule ({ Volumes := a.Volumes, Sectors := a.Sectors, Configs := a.Configs, Segments := a.Segments, Routes := a.Routes, Airports := a.Airports, Classes := l1, Rules := a.Rules } : Airspace).Rules))]]) rfl ti64 ti31 rfl rfl rfl rfl rfl (.cons (RowSim.refl _) .nil) (fun x => ok_Airspace x) rfl rfl ?_
                        refine of_need fun hl21 => ?_
                        refine wo_append (e := rAirspace) (L := x4) (L2 := [({ Volumes := a.Volumes, Sectors := a.Sectors, Configs := a.Configs, Segments := a.Segments, Routes := a.Routes, Airports := a.Airports, Classes := l1, Rules := a.Rules } : Airspace)]) (v := v24) (g := g31) (st := 8) (j := 4) hI rfl rfl rfl rfl vH24 rfl (src_sl rfl) ti64 ti64 rfl ti31 rfl rfl rfl hl21 fun v32 g40 vH32 => ?_
                        refine wo_val v32 rfl pv_assign ?_
                        refine wo_nil ?_
                        refine wr_hp [(some (.rows g 8 [(rAirspace a)])), none, none, none, (ownO v32 g40 8 (List.map rAirspace (x4 ++ [({ Volumes := a.Volumes, Sectors := a.Sectors, Configs := a.Configs, Segments := a.Segments, Routes := a.Routes, Airports := a.Airports, Classes := l1, Rules := a.Rules } : Airspace)]))), none, none, none, none, none, none, none, none, none, none, none, none, none, none, none, none, none] rfl ?_
                        refine wr_is [(2, (.ptr (ix ids 0) g 0 0)), (7, (.int .i64 (IntKind.wrap .i64 b))), (8, v32)] (.cons rfl (.cons rfl (.cons rfl .nil))) ?_
                        refine hJ6 (x4 ++ [({ Volumes := a.Volumes, Sectors := a.Sectors, Configs := a.Configs, Segments := a.Segments, Routes := a.Routes, Airports := a.Airports, Classes := l1, Rules := a.Rules } : Airspace)]) _ _ ?_
                        exact ⟨v32, g40, vH32, rfl, rfl⟩
                      · refine wr_drawT hmix (.node 13 3 (.leaf [[], [], [1], [0, 1, 2], [], [4], [], [], [6, 7], [4, 5, 6, 7, 8], [4, 5, 6, 7, 8, 9], [4, 5, 6, 7, 8, 9, 10], [4, 5, 6, 7, 8, 9, 10, 11], [0, 1, 2, 3, 4, 5, 6, 7, 8, 9, 10, 11, 12], [0, 1, 2, 3, 4, 5, 6, 7, 8, 9, 10, 11, 12, 13], [0, 1, 2, 3, 4, 5, 6, 7, 8, 9, 10, 11, 12, 13, 14], [0, 1, 2, 3, 4, 5, 6, 7, 8, 9, 10, 11, 12, 13, 14, 14, 14, 15]] [(false, 1), (false, 2), (false, 4), (false, 5), (false, 6), (false, 7), (false, 8), (false, 9), (false, 10), (false, 11), (false, 12), (true, 0), (true, 3), (true, 13), (true, 14), (false, 15), (true, 16)]) (.node 13 0 (.leaf [[], [], [1], [0, 1, 2, 4, 5, 6, 7, 8, 9, 10, 11, 12, 13], [], [4], [], [], [6, 7], [4, 5, 6, 7, 8], [4, 5, 6, 7, 8, 9], [4, 5, 6, 7, 8, 9, 10], [4, 5, 6, 7, 8, 9, 10, 11], [0, 4, 5, 6, 7, 8, 9, 10, 11, 12], [0, 1, 2, 3, 4, 5, 6, 7, 8, 9, 10, 11, 12, 13], [0, 1, 2, 3, 4, 5, 6, 7, 8, 9, 10, 11, 12, 13, 14], [0, 1, 2, 3, 4, 5, 6, 7, 8, 9, 10, 11, 12, 13, 14, 14, 14, 15]] [(false, 1), (false, 2), (false, 4), (false, 5), (false, 6), (false, 7), (false, 8), (false, 9), (false, 10), (false, 11), (false, 12), (true, 0), (true, 13), (true, 3), (true, 14), (false, 15), (true, 16)]) (.leaf [[4, 5, 6, 7, 8, 9, 10, 11, 12, 13], [], [1], [0, 1, 2, 4, 5, 6, 7, 8, 9, 10, 11, 12, 13], [], [4], [], [], [6, 7], [4, 5, 6, 7, 8], [4, 5, 6, 7, 8, 9], [4, 5, 6, 7, 8, 9, 10], [4, 5, 6, 7, 8, 9, 10, 11], [4, 5, 6, 7, 8, 9, 10, 11, 12], [0, 1, 2, 3, 4, 5, 6, 7, 8, 9, 10, 11, 12, 13], [0, 1, 2, 3, 4, 5, 6, 7, 8, 9, 10, 11, 12, 13, 14], [0, 1, 2, 3, 4, 5, 6, 7, 8, 9, 10, 11, 12, 13, 14, 14, 14, 15]] [(false, 1), (false, 2), (false, 4), (false, 5), (false, 6), (false, 7), (false, 8), (false, 9), (false, 10), (false, 11), (false, 12), (true, 13), (true, 0), (true, 3), (true, 14), (false, 15), (true, 16)]))) (by kernel_rfl) ?_
                        refine dt_node ?_ ?_
                        · refine dt_leaf ?_
                          refine wp_val (.ptr (ix ids 0) g 0 6) rfl rfl (pv_fa (fa_ptr (c := 0) (off := 6) (i := 6) ti31 rfl ti28 rfl)) ?_
                          refine wp_val (.sl 4 (List.map rClass a.Classes)) rfl rfl (pv_load (ld_ptr hI rfl rfl rfl ti28 rfl)) ?_
                          refine wp_val (.ptr (ix ids 0) g 0 6) rfl rfl (pv_fa (fa_ptr (c := 0) (off := 6) (i := 6) ti31 rfl ti28 rfl)) ?_
                          refine wp_val (.sl 4 (List.map rClass a.Classes)) rfl rfl (pv_load (ld_ptr hI rfl rfl rfl ti28 rfl)) ?_
                          refine wp_val (.int .i64 (IntKind.wrap .i64 b)) rfl rfl pv_move ?_
                          refine wp_val (.int .i64 (a.Classes.length : Int)) rfl rfl pv_move ?_
                          refine op_need fun hz14 => ?_
                          refine wp_val (.int .i64 (Int.tmod (IntKind.wrap .i64 b) (a.Classes.length : Int))) rfl rfl (pv_bin rfl rfl (bin_rem rfl hz14)) ?_
                          refine op_idx fun a8 hz15 hx8 => ?_
                          refine wp_val (.cp (rClass a8) 0) rfl rfl (pv_ixa (ixa_sl ti28 ti43 rfl hz15 hx8)) ?_
                          refine wp_val (.cp (rClass a8) 0) rfl rfl (pv_fa (fa_cp (c := 0) (off := 0) (i := 0) ti43 rfl ti9 rfl)) ?_
                          refine wp_val (.str a8.Name) rfl rfl (pv_load (ld_cp ti9 rfl)) ?_
                          refine wp_val (.agg [(.str a8.Name), (.int .i64 0), (.int .i64 0), (.int .i64 0)]) rfl rfl (pv_build (bd_st ti43 pl43 rfl)) ?_
                          refine wp_op rfl rfl (fun _ _ => rfl) (fun K hK => eff_bs0 ti28 ti43 (hK _ _ (pend_no rfl (pv_build (bd_st ti43 pl43 rfl)) (pend_no rfl (pv_load (ld_cp ti9 rfl)) (pend_no rfl (pv_fa (fa_cp (c := 0) (off := 0) (i := 0) ti43 rfl ti9 rfl)) (pend_no rfl (pv_ixa (ixa_sl ti28 ti43 rfl hz15 hx8)) (pend_no rfl (pv_bin rfl rfl (bin_rem rfl hz14)) (pend_no rfl pv_move (pend_no rfl pv_move (pend_no rfl (pv_load (ld_ptr hI rfl rfl rfl ti28 rfl)) (pend_no rfl (pv_fa (fa_ptr (c := 0) (off := 6) (i := 6) ti31 rfl ti28 rfl)) (pend_no rfl (pv_load (ld_ptr hI rfl rfl rfl ti28 rfl)) (pend_no rfl (pv_fa (fa_ptr (c := 0) (off := 6) (i := 6) ti31 rfl ti28 rfl)) pend_nil))))))))))) ?_)) 
                          clear hK K
                          refine op_need fun hl15 => ?_
                          refine wp_op rfl rfl (fun _ _ => rfl) (fun K hK => eff_append (e := rClass) (L := ([] : List Class)) (L2 := a.Classes) (v := .emp) (g := 0) (st := 4) (j := 14) hI rfl rfl rfl .nil rfl (src_sl rfl) ti28 ti28 rfl ti43 rfl rfl rfl (by simpa using hl15) fun v25 g33 vH25 => hK _ _ (pend_no rfl (pv_build (bd_st ti43 pl43 rfl)) (pend_no rfl (pv_load (ld_cp ti9 rfl)) (pend_no rfl (pv_fa (fa_cp (c := 0) (off := 0) (i := 0) ti43 rfl ti9 rfl)) (pend_no rfl (pv_ixa (ixa_sl ti28 ti43 rfl hz15 hx8)) (pend_no rfl (pv_bin rfl rfl (bin_rem rfl hz14)) (pend_no rfl pv_move (pend_no rfl pv_move (pend_no rfl (pv_load (ld_ptr hI rfl rfl rfl ti28 rfl)) (pend_no rfl (pv_fa (fa_ptr (c := 0) (off := 6) (i := 6) ti31 rfl ti28 rfl)) (pend_yes rfl (pend_yes rfl pend_nil))))))))))) ?_) 
                          clear hK K
                          refine wp_op rfl rfl (fun _ _ => rfl) (fun K hK => eff_bsC (e := rClass) (L := [({ Name := a8.Name, Slow := 0, Fast := 0, Places := 0 } : Class)]) (st := 4) (rows := [[(.str a8.Name), (.int .i64 0), (.int .i64 0), (.int .i64 0)]]) ti28 ti43 rfl rfl rfl rfl rfl (.cons (.cons (.same _) (.cons (.same _) (.cons (.same _) (.cons (.same _) .nil)))) .nil) (fun x => ok_Class x) rfl rfl (hK _ _ (pend_yes rfl (pend_yes rfl (pend_yes rfl (pend_yes rfl (pend_yes rfl (pend_yes rfl (pend_yes rfl (pend_yes rfl (pend_yes rfl (pend_yes rfl (pend_yes rfl pend_nil))))))))))) ?_)) 
                          clear hK K
                          refine op_need fun hl16 => ?_
                          refine wp_op rfl rfl (fun _ _ => rfl) (fun K hK => eff_append (e := rClass) (L := a.Classes) (L2 := [({ Name := a8.Name, Slow := 0, Fast := 0, Places := 0 } : Class)]) (v := v25) (g := g33) (st := 4) (j := 14) hI rfl rfl rfl vH25 rfl (src_sl rfl) ti28 ti28 rfl ti43 rfl rfl rfl hl16 fun v26 g34 vH26 => hK _ _ (pend_yes rfl (pend_yes rfl (pend_yes rfl (pend_yes rfl (pend_yes rfl (pend_yes rfl (pend_yes rfl (pend_yes rfl (pend_yes rfl (pend_yes rfl (pend_yes rfl pend_nil))))))))))) ?_) 
                          clear hK K
                          refine wp_val (.ptr (ix ids 13) g32 0 6) rfl rfl (pv_fa (fa_ptr (c := 0) (off := 6) (i := 6) ti31 rfl ti28 rfl)) ?_
                          refine wp_op0 rfl (fun _ _ => rfl) (fun K hK => eff_store (st_ptrO vH26 hI rfl rfl rfl rfl ti28 rfl rfl rfl) (hK _ _ (pend_yes rfl (pend_yes rfl (pend_yes rfl (pend_yes rfl (pend_yes rfl (pend_yes rfl (pend_yes rfl (pend_yes rfl (pend_yes rfl (pend_yes rfl (pend_yes rfl (pend_yes rfl pend_nil)))))))))))) ?_)) 
                          clear hK K
                          refine wp_nil ?_
                          refine wr_hp [(some (.rows g 8 [(rAirspace a)])), none, none, none, (ownO v24 g31 8 (List.map rAirspace x4)), none, none, none, none, none, none, none, none, (some (.rows g32 8 [[(.sl 2 (List.map rVolume a.Volumes)), (.sl 5 (List.map rSector a.Sectors)), (.sl 3 (List.map rConfig a.Configs)), (.sl 5 (List.map rSegment a.Segments)), (.sl 7 (List.map rRoute a.Routes)), (.sl 2 (List.map rAirport a.Airports)), v26, (.sl 8 (List.map rRule a.Rules))]])), (ownO v26 g34 4 (List.map rClass (a.Classes ++ [({ Name := a8.Name, Slow := 0, Fast := 0, Places := 0 } : Class)]))), none, none, none, none, none, none, none] rfl ?_
                          refine wr_is [(2, (.ptr (ix ids 0) g 0 0)), (7, (.int .i64 (IntKind.wrap .i64 b))), (8, v24), (20, (.ptr (ix ids 13) g32 0 0))] (.cons rfl (.cons rfl (.cons rfl (.cons rfl .nil)))) ?_
                          refine hJ1 (a.Classes ++ [({ Name := a8.Name, Slow := 0, Fast := 0, Places := 0 } : Class)]) _ _ ?_
                          exact ⟨v26, g34, vH26, rfl, rfl⟩
                        · refine dt_node ?_ ?_
                          · refine dt_leaf ?_
                            refine wp_val (.ptr (ix ids 0) g 0 6) rfl rfl (pv_fa (fa_ptr (c := 0) (off := 6) (i := 6) ti31 rfl ti28 rfl)) ?_
                            refine wp_val (.sl 4 (List.map rClass a.Classes)) rfl rfl (pv_load (ld_ptr hI rfl rfl rfl ti28 rfl)) ?_
                            refine wp_val (.ptr (ix ids 0) g 0 6) rfl rfl (pv_fa (fa_ptr (c := 0) (off := 6) (i := 6) ti31 rfl ti28 rfl)) ?_
                            refine wp_val (.sl 4 (List.map rClass a.Classes)) rfl rfl (pv_load (ld_ptr hI rfl rfl rfl ti28 rfl)) ?_
                            refine wp_val (.int .i64 (IntKind.wrap .i64 b)) rfl rfl pv_move ?_
                            refine wp_val (.int .i64 (a.Classes.length : Int)) rfl rfl pv_move ?_
                            refine op_need fun hz16 => ?_
                            refine wp_val (.int .i64 (Int.tmod (IntKind.wrap .i64 b) (a.Classes.length : Int))) rfl rfl (pv_bin rfl rfl (bin_rem rfl hz16)) ?_
                            refine op_idx fun a9 hz17 hx9 => ?_
                            refine wp_val (.cp (rClass a9) 0) rfl rfl (pv_ixa (ixa_sl ti28 ti43 rfl hz17 hx9)) ?_
                            refine wp_val (.cp (rClass a9) 0) rfl rfl (pv_fa (fa_cp (c := 0) (off := 0) (i := 0) ti43 rfl ti9 rfl)) ?_
                            refine wp_val (.str a9.Name) rfl rfl (pv_load (ld_cp ti9 rfl)) ?_
                            refine wp_val (.agg [(.str a9.Name), (.int .i64 0), (.int .i64 0), (.int .i64 0)]) rfl rfl (pv_build (bd_st ti43 pl43 rfl)) ?_
                            refine wp_op rfl rfl (fun _ _ => rfl) (fun K hK => eff_bs0 ti28 ti43 (hK _ _ (pend_no rfl (pv_build (bd_st ti43 pl43 rfl)) (pend_no rfl (pv_load (ld_cp ti9 rfl)) (pend_no rfl (pv_fa (fa_cp (c := 0) (off := 0) (i := 0) ti43 rfl ti9 rfl)) (pend_no rfl (pv_ixa (ixa_sl ti28 ti43 rfl hz17 hx9)) (pend_no rfl (pv_bin rfl rfl (bin_rem rfl hz16)) (pend_no rfl pv_move (pend_no rfl pv_move (pend_no rfl (pv_load (ld_ptr hI rfl rfl rfl ti28 rfl)) (pend_no rfl (pv_fa (fa_ptr (c := 0) (off := 6) (i := 6) ti31 rfl ti28 rfl)) (pend_no rfl (pv_load (ld_ptr hI rfl rfl rfl ti28 rfl)) (pend_no rfl (pv_fa (fa_ptr (c := 0) (off := 6) (i := 6) ti31 rfl ti28 rfl)) pend_nil))))))))))) ?_)) 
                            clear hK K
                            refine wp_op rfl rfl (fun _ _ => rfl) (fun K hK => eff_bsC (e := rClass) (L := [({ Name := a9.Name, Slow := 0, Fast := 0, Places := 0 } : Class)]) (st := 4) (rows := [[(.str a9.Name), (.int .i64 0), (.int .i64 0), (.int .i64 0)]]) ti28 ti43 rfl rfl rfl rfl rfl (.cons (.cons (.same _) (.cons (.same _) (.cons (.same _) (.cons (.same _) .nil)))) .nil) (fun x => ok_Class x) rfl rfl (hK _ _ (pend_yes rfl (pend_yes rfl (pend_yes rfl (pend_yes rfl (pend_yes rfl (pend_yes rfl (pend_yes rfl (pend_yes rfl (pend_yes rfl (pend_no rfl (pv_load (ld_ptr hI rfl rfl rfl ti28 rfl)) (pend_no rfl (pv_fa (fa_ptr (c := 0) (off := 6) (i := 6) ti31 rfl ti28 rfl)) pend_nil))))))))))) ?_)) 
                            clear hK K
                            refine op_need fun hl17 => ?_
                            refine wp_op rfl rfl (fun _ _ => rfl) (fun K hK => eff_append (e := rClass) (L := ([] : List Class)) (L2 := a.Classes) (v := .emp) (g := 0) (st := 4) (j := 14) hI rfl rfl rfl .nil rfl (src_sl rfl) ti28 ti28 rfl ti43 rfl rfl rfl (by simpa using hl17) fun v27 g35 vH27 => hK _ _ (pend_yes rfl (pend_yes rfl (pend_yes rfl (pend_yes rfl (pend_yes rfl (pend_yes rfl (pend_yes rfl (pend_yes rfl (pend_yes rfl (pend_yes rfl (pend_yes rfl pend_nil))))))))))) ?_) 
                            clear hK K
                            refine op_need fun hl18 => ?_
                            refine wp_op rfl rfl (fun _ _ => rfl) (fun K hK => eff_append (e := rClass) (L := a.Classes) (L2 := [({ Name := a9.Name, Slow := 0, Fast := 0, Places := 0 } : Class)]) (v := v27) (g := g35) (st := 4) (j := 14) hI rfl rfl rfl vH27 rfl (src_sl rfl) ti28 ti28 rfl ti43 rfl rfl rfl hl18 fun v28 g36 vH28 => hK _ _ (pend_yes rfl (pend_yes rfl (pend_yes rfl (pend_yes rfl (pend_yes rfl (pend_yes rfl (pend_yes rfl (pend_yes rfl (pend_yes rfl (pend_yes rfl (pend_yes rfl pend_nil))))))))))) ?_) 
                            clear hK K
                            refine wp_val (.ptr (ix ids 13) g32 0 6) rfl rfl (pv_fa (fa_ptr (c := 0) (off := 6) (i := 6) ti31 rfl ti28 rfl)) ?_
                            refine wp_op0 rfl (fun _ _ => rfl) (fun K hK => eff_store (st_ptrO vH28 hI rfl rfl rfl rfl ti28 rfl rfl rfl) (hK _ _ (pend_yes rfl (pend_yes rfl (pend_yes rfl (pend_yes rfl (pend_yes rfl (pend_yes rfl (pend_yes rfl (pend_yes rfl (pend_yes rfl (pend_yes rfl (pend_yes rfl (pend_yes rfl pend_nil)))))))))))) ?_)) 
                            clear hK K
                            refine wp_nil ?_
                            refine wr_hp [(some (.rows g 8 [(rAirspace a)])), none, none, none, (ownO v24 g31 8 (List.map rAirspace x4)), none, none, none, none, none, none, none, none, (some (.rows g32 8 [[(.sl 2 (List.map rVolume a.Volumes)), (.sl 5 (List.map rSector a.Sectors)), (.sl 3 (List.map rConfig a.Configs)), (.sl 5 (List.map rSegment a.Segments)), (.sl 7 (List.map rRoute a.Routes)), (.sl 2 (List.map rAirport a.Airports)), v28, (.sl 8 (List.map rRule a.Rules))]])), (ownO v28 g36 4 (List.map rClass (a.Classes ++ [({ Name := a9.Name, Slow := 0, Fast := 0, Places := 0 } : Class)]))), none, none, none, none, none, none, none] rfl ?_
                            refine wr_is [(2, (.ptr (ix ids 0) g 0 0)), (7, (.int .i64 (IntKind.wrap .i64 b))), (8, v24), (20, (.ptr (ix ids 13) g32 0 0))] (.cons rfl (.cons rfl (.cons rfl (.cons rfl .nil)))) ?_
                            refine hJ1 (a.Classes ++ [({ Name := a9.Name, Slow := 0, Fast := 0, Places := 0 } : Class)]) _ _ ?_
                            exact ⟨v28, g36, vH28, rfl, rfl⟩
                          · refine dt_leaf ?_
                            refine wp_val (.ptr (ix ids 0) g 0 6) rfl rfl (pv_fa (fa_ptr (c := 0) (off := 6) (i := 6) ti31 rfl ti28 rfl)) ?_
                            refine wp_val (.sl 4 (List.map rClass a.Classes)) rfl rfl (pv_load (ld_ptr hI rfl rfl rfl ti28 rfl)) ?_
                            refine wp_val (.ptr (ix ids 0) g 0 6) rfl rfl (pv_fa (fa_ptr (c := 0) (off := 6) (i := 6) ti31 rfl ti28 rfl)) ?_
                            refine wp_val (.sl 4 (List.map rClass a.Classes)) rfl rfl (pv_load (ld_ptr hI rfl rfl rfl ti28 rfl)) ?_
                            refine wp_val (.int .i64 (IntKind.wrap .i64 b)) rfl rfl pv_move ?_
                            refine wp_val (.int .i64 (a.Classes.length : Int)) rfl rfl pv_move ?_
                            refine op_need fun hz18 => ?_
                            refine wp_val (.int .i64 (Int.tmod (IntKind.wrap .i64 b) (a.Classes.length : Int))) rfl rfl (pv_bin rfl rfl (bin_rem rfl hz18)) ?_
                            refine op_idx fun a10 hz19 hx10 => ?_
                            refine wp_val (.cp (rClass a10) 0) rfl rfl (pv_ixa (ixa_sl ti28 ti43 rfl hz19 hx10)) ?_
                            refine wp_val (.cp (rClass a10) 0) rfl rfl (pv_fa (fa_cp (c := 0) (off := 0) (i := 0) ti43 rfl ti9 rfl)) ?_
                            refine wp_val (.str a10.Name) rfl rfl (pv_load (ld_cp ti9 rfl)) ?_
                            refine wp_val (.agg [(.str a10.Name), (.int .i64 0), (.int .i64 0), (.int .i64 0)]) rfl rfl (pv_build (bd_st ti43 pl43 rfl)) ?_
                            refine wp_op rfl rfl (fun _ _ => rfl) (fun K hK => eff_bsC (e := rClass) (L := [({ Name := a10.Name, Slow := 0, Fast := 0, Places := 0 } : Class)]) (st := 4) (rows := [[(.str a10.Name), (.int .i64 0), (.int .i64 0), (.int .i64 0)]]) ti28 ti43 rfl rfl rfl rfl rfl (.cons (.cons (.same _) (.cons (.same _) (.cons (.same _) (.cons (.same _) .nil)))) .nil) (fun x => ok_Class x) rfl rfl (hK _ _ (pend_yes rfl (pend_yes rfl (pend_yes rfl (pend_yes rfl (pend_yes rfl (pend_yes rfl (pend_yes rfl (pend_yes rfl (pend_yes rfl (pend_no rfl (pv_load (ld_ptr hI rfl rfl rfl ti28 rfl)) (pend_no rfl (pv_fa (fa_ptr (c := 0) (off := 6) (i := 6) ti31 rfl ti28 rfl)) pend_nil))))))))))) ?_)) 
                            clear hK K
                            refine wp_op rfl rfl (fun _ _ => rfl) (fun K hK => eff_bs0 ti28 ti43 (hK _ _ (pend_yes rfl (pend_yes rfl (pend_yes rfl (pend_yes rfl (pend_yes rfl (pend_yes rfl (pend_yes rfl (pend_yes rfl (pend_yes rfl (pend_no rfl (pv_load (ld_ptr hI rfl rfl rfl ti28 rfl)) (pend_no rfl (pv_fa (fa_ptr (c := 0) (off := 6) (i := 6) ti31 rfl ti28 rfl)) pend_nil))))))))))) ?_)) 
                            clear hK K
                            refine op_need fun hl19 => ?_
                            refine wp_op rfl rfl (fun _ _ => rfl) (fun K hK => eff_append (e := rClass) (L := ([] : List Class)) (L2 := a.Classes) (v := .emp) (g := 0) (st := 4) (j := 14) hI rfl rfl rfl .nil rfl (src_sl rfl) ti28 ti28 rfl ti43 rfl rfl rfl (by simpa using hl19) fun v29 g37 vH29 => hK _ _ (pend_yes rfl (pend_yes rfl (pend_yes rfl (pend_yes rfl (pend_yes rfl (pend_yes rfl (pend_yes rfl (pend_yes rfl (pend_yes rfl (pend_yes rfl (pend_yes rfl pend_nil))))))))))) ?_) 
                            clear hK K
                            refine op_need fun hl20 => ?_
                            refine wp_op rfl rfl (fun _ _ => rfl) (fun K hK => eff_append (e := rClass) (L := a.Classes) (L2 := [({ Name := a10.Name, Slow := 0, Fast := 0, Places := 0 } : Class)]) (v := v29) (g := g37) (st := 4) (j := 14) hI rfl rfl rfl vH29 rfl (src_sl rfl) ti28 ti28 rfl ti43 rfl rfl rfl hl20 fun v30 g38 vH30 => hK _ _ (pend_yes rfl (pend_yes rfl (pend_yes rfl (pend_yes rfl (pend_yes rfl (pend_yes rfl (pend_yes rfl (pend_yes rfl (pend_yes rfl (pend_yes rfl (pend_yes rfl pend_nil))))))))))) ?_) 
                            clear hK K
                            refine wp_val (.ptr (ix ids 13) g32 0 6) rfl rfl (pv_fa (fa_ptr (c := 0) (off := 6) (i := 6) ti31 rfl ti28 rfl)) ?_
                            refine wp_op0 rfl (fun _ _ => rfl) (fun K hK => eff_store (st_ptrO vH30 hI rfl rfl rfl rfl ti28 rfl rfl rfl) (hK _ _ (pend_yes rfl (pend_yes rfl (pend_yes rfl (pend_yes rfl (pend_yes rfl (pend_yes rfl (pend_yes rfl (pend_yes rfl (pend_yes rfl (pend_yes rfl (pend_yes rfl (pend_yes rfl pend_nil)))))))))))) ?_)) 
                            clear hK K
                            refine wp_nil ?_
                            refine wr_hp [(some (.rows g 8 [(rAirspace a)])), none, none, none, (ownO v24 g31 8 (List.map rAirspace x4)), none, none, none, none, none, none, none, none, (some (.rows g32 8 [[(.sl 2 (List.map rVolume a.Volumes)), (.sl 5 (List.map rSector a.Sectors)), (.sl 3 (List.map rConfig a.Configs)), (.sl 5 (List.map rSegment a.Segments)), (.sl 7 (List.map rRoute a.Routes)), (.sl 2 (List.map rAirport a.Airports)), v30, (.sl 8 (List.map rRule a.Rules))]])), (ownO v30 g38 4 (List.map rClass (a.Classes ++ [({ Name := a10.Name, Slow := 0, Fast := 0, Places := 0 } : Class)]))), none, none, none, none, none, none, none] rfl ?_
                            refine wr_is [(2, (.ptr (ix ids 0) g 0 0)), (7, (.int .i64 (IntKind.wrap .i64 b))), (8, v24), (20, (.ptr (ix ids 13) g32 0 0))] (.cons rfl (.cons rfl (.cons rfl (.cons rfl .nil)))) ?_
                            refine hJ1 (a.Classes ++ [({ Name := a10.Name, Slow := 0, Fast := 0, Places := 0 } : Class)]) _ _ ?_
                            exact ⟨v30, g38, vH30, rfl, rfl⟩
                    · refine wr_skip ?_
                      refine wr_is [(2, (.ptr (ix ids 0) g 0 0)), (7, (.int .i64 (IntKind.wrap .i64 b))), (8, v24)] (.cons rfl (.cons rfl (.cons rfl .nil))) ?_
                      refine hJ6 x4 _ _ ?_
                      exact ⟨v24, g31, vH24, rfl, rfl⟩
                · refine wf_ite rfl (fun hc7 => ?_) (fun hc7 => ?_)
                  · refine wr_seq ?_
                    refine wr_region ?_
                    refine wo_val (.agg (rAirspace a)) rfl (pv_load (ld_ptr hI rfl rfl rfl ti31 rfl)) ?_
                    refine wo_alloc (j := 11) hI rfl rfl rfl rfl ti31 rfl fun g27 => ?_
                    refine wo_store (st_ptr hI rfl rfl rfl rfl ti31 rfl rfl rfl rfl rfl) ?_
                    refine wo_nil ?_
                    refine wr_hp [(some (.rows g 8 [(rAirspace a)])), none, none, none, (ownO v20 g26 8 (List.map rAirspace x3)), none, none, none, none, none, none, (some (.rows g27 8 [(rAirspace a)])), none, none, none, none, none, none, none, none, none, none] rfl ?_
                    refine wr_seq ?_
                    refine wr_draw hmix [[], [0], [], [], [2, 3], [0, 1, 2, 3, 4], [0, 1, 2, 3, 4, 5], [0, 1, 2, 3, 4, 5, 6], [0, 1, 2, 3, 4, 5, 6, 7], [0, 1, 2, 3, 4, 5, 6, 7, 8], [], [10], [0, 1, 2, 3, 4, 5, 6, 7, 8, 9, 10, 11], [0, 1, 2, 3, 4, 5, 6, 7, 8, 9, 10, 11, 12], [0, 1, 2, 3, 4, 5, 6, 7, 8, 9, 10, 11, 12, 12, 12, 13]] [(false, 0), (false, 1), (false, 2), (false, 3), (false, 4), (false, 5), (false, 6), (false, 7), (false, 8), (false, 10), (false, 11), (true, 9), (true, 12), (false, 13), (true, 14)] (by kernel_rfl) ?_
                    refine wp_val (.ptr (ix ids 0) g 0 3) rfl rfl (pv_fa (fa_ptr (c := 0) (off := 3) (i := 3) ti31 rfl ti25 rfl)) ?_
                    refine wp_val (.sl 5 (List.map rSegment a.Segments)) rfl rfl (pv_load (ld_ptr hI rfl rfl rfl ti25 rfl)) ?_
                    refine wp_val (.int .i64 (IntKind.wrap .i64 b)) rfl rfl pv_move ?_
                    refine wp_val (.int .i64 (a.Segments.length : Int)) rfl rfl pv_move ?_
                    refine op_need fun hz12 => ?_
                    refine wp_val (.int .i64 (Int.tmod (IntKind.wrap .i64 b) (a.Segments.length : Int))) rfl rfl (pv_bin rfl rfl (bin_rem rfl hz12)) ?_
                    refine op_idx fun a7 hz13 hx7 => ?_
                    refine wp_val (.cp (rSegment a7) 0) rfl rfl (pv_ixa (ixa_sl ti25 ti57 rfl hz13 hx7)) ?_
                    refine wp_val (.cp (rSegment a7) 0) rfl rfl (pv_fa (fa_cp (c := 0) (off := 0) (i := 0) ti57 rfl ti9 rfl)) ?_
                    refine wp_val (.str a7.Name) rfl rfl (pv_load (ld_cp ti9 rfl)) ?_
                    refine wp_val (.agg [(.str a7.Name), (.str []), (.int .i64 0), (.int .i64 0), .emp]) rfl rfl (pv_build (bd_st ti57 pl57 rfl)) ?_
                    refine wp_val (.ptr (ix ids 0) g 0 3) rfl rfl (pv_fa (fa_ptr (c := 0) (off := 3) (i := 3) ti31 rfl ti25 rfl)) ?_
                    refine wp_val (.sl 5 (List.map rSegment a.Segments)) rfl rfl (pv_load (ld_ptr hI rfl rfl rfl ti25 rfl)) ?_
                    refine wp_op rfl rfl (fun _ _ => rfl) (fun K hK => eff_bs (e := rSegment) (L := [({ Name := a7.Name, In := [], Volume := 0, Length := 0, Open := [] } : Segment)]) (st := 5) (j := 12) (rows := [[(.str a7.Name), (.str []), (.int .i64 0), (.int .i64 0), .emp]]) hI rfl rfl rfl ti25 ti57 rfl rfl rfl rfl rfl (.cons (.cons (.same _) (.cons (.same _) (.cons (.same _) (.cons (.same _) (.cons (.emp _) .nil))))) .nil) (fun x => ok_Segment x) rfl rfl rfl fun v21 g28 vH21 => hK _ _ (pend_no rfl (pv_load (ld_ptr hI rfl rfl rfl ti25 rfl)) (pend_no rfl (pv_fa (fa_ptr (c := 0) (off := 3) (i := 3) ti31 rfl ti25 rfl)) (pend_yes rfl (pend_yes rfl (pend_yes rfl (pend_yes rfl (pend_yes rfl (pend_yes rfl (pend_yes rfl (pend_yes rfl (pend_yes rfl pend_nil))))))))))) ?_) 
                    clear hK K
                    refine op_need fun hl13 => ?_
                    refine wp_op rfl rfl (fun _ _ => rfl) (fun K hK => eff_append (e := rSegment) (L := [({ Name := a7.Name, In := [], Volume := 0, Length := 0, Open := [] } : Segment)]) (L2 := a.Segments) (v := v21) (g := g28) (st := 5) (j := 12) hI rfl rfl rfl vH21 rfl (src_sl rfl) ti25 ti25 rfl ti57 rfl rfl rfl hl13 fun v22 g29 vH22 => hK _ _ (pend_yes rfl (pend_yes rfl (pend_yes rfl (pend_yes rfl (pend_yes rfl (pend_yes rfl (pend_yes rfl (pend_yes rfl (pend_yes rfl (pend_yes rfl (pend_yes rfl pend_nil))))))))))) ?_) 
                    clear hK K
                    refine wp_val (.ptr (ix ids 11) g27 0 3) rfl rfl (pv_fa (fa_ptr (c := 0) (off := 3) (i := 3) ti31 rfl ti25 rfl)) ?_
                    refine wp_op0 rfl (fun _ _ => rfl) (fun K hK => eff_store (st_ptrO vH22 hI rfl rfl rfl rfl ti25 rfl rfl rfl) (hK _ _ (pend_yes rfl (pend_yes rfl (pend_yes rfl (pend_yes rfl (pend_yes rfl (pend_yes rfl (pend_yes rfl (pend_yes rfl (pend_yes rfl (pend_yes rfl (pend_yes rfl (pend_yes rfl pend_nil)))))))))))) ?_)) 
                    clear hK K
                    refine wp_nil ?_
                    refine wr_hp [(some (.rows g 8 [(rAirspace a)])), none, none, none, (ownO v20 g26 8 (List.map rAirspace x3)), none, none, none, none, none, none, (some (.rows g27 8 [[(.sl 2 (List.map rVolume a.Volumes)), (.sl 5 (List.map rSector a.Sectors)), (.sl 3 (List.map rConfig a.Configs)), v22, (.sl 7 (List.map rRoute a.Routes)), (.sl 2 (List.map rAirport a.Airports)), (.sl 4 (List.map rClass a.Classes)), (.sl 8 (List.map rRule a.Rules))]])), (ownO v22 g29 5 (List.map rSegment ([({ Name := a7.Name, In := [], Volume := 0, Length := 0, Open := [] } : Segment)] ++ a.Segments))), none, none, none, none, none, none, none, none, none] rfl ?_
                    refine wr_region ?_
                    refine wo_val v20 rfl pv_move ?_
                    refine wo_val (.agg [(.sl 2 (List.map rVolume a.Volumes)), (.sl 5 (List.map rSector a.Sectors)), (.sl 3 (List.map rConfig a.Configs)), v22, (.sl 7 (List.map rRoute a.Routes)), (.sl 2 (List.map rAirport a.Airports)), (.sl 4 (List.map rClass a.Classes)), (.sl 8 (List.map rRule a.Rules))]) rfl (pv_load (ld_ptr hI rfl rfl rfl ti31 rfl)) ?_
                    refine wo_frz (h2 := hp h0 ids [(some (.rows g 8 [(rAirspace a)])), none, none, none, (ownO v20 g26 8 (List.map rAirspace x3)), none, none, none, none, none, none, none, none, none, none, none, none, none, none, none, none, none]) [(2, (.ptr (ix ids 0) g 0 0)), (7, (.int .i64 (IntKind.wrap .i64 b))), (160, v20), (161, (.agg (rAirspace ({ Volumes := a.Volumes, Sectors := a.Sectors, Configs := a.Configs, Segments := ([({ Name := a7.Name, In := [], Volume := 0, Length := 0, Open := [] } : Segment)] ++ a.Segments), Routes := a.Routes, Airports := a.Airports, Classes := a.Classes, Rules := a.Rules } : Airspace))))] (Drops.sub (.keep (.keep (.keep (.keep (.keep (.keep (.keep (.keep (.keep (.keep (.keep (.drop (.drop (.keep (.keep (.keep (.keep (.keep (.keep (.keep (.keep (.keep .nil)))))))))))))))))))))) hI.len) (.cons (.same _) (.cons (.same _) (.cons (.same _) (.cons (.aggL (.cons (.same _) (.cons (.same _) (.cons (.same _) (.cons (own_fz vH22 (hI.at rfl rfl) (hI.at rfl rfl) (fun x => ok_Segment x)) (.cons (.same _) (.cons (.same _) (.cons (.same _) (.cons (.same _) .nil))))))))) .nil)))) rfl rfl ?_
                    refine wo_bsC (e := rAirspace) (L := [({ Volumes := a.Volumes, Sectors := a.Sectors, Configs := a.Configs, Segments := ([({ Name := a7.Name, In := [], Volume := 0, Length := 0, Open := [] } : Segment)] ++ a.Segments), Routes := a.Routes, Airports := a.Airports, Classes := a.Classes, Rules := a.Rules } : Airspace)]) (st := 8) (rows := [[(.sl 2 (List.map rVolume ({ Volumes := a.Volumes, Sectors := a.Sectors, Configs := a.Configs, Segments := ([({ Name := a7.Name, In := [], Volume := 0, Length := 0, Open := [] } : Segment)] ++ a.Segments), Routes := a.Routes, Airports := a.Airports, Classes := a.Classes, Rules := a.Rules } : Airspace).Volumes)), (.sl 5 (List.map rSector ({ Volumes := a.Volumes, Sectors := a.Sectors, Configs := a.Configs, Segments := ([({ Name := a7.Name, In := [], Volume := 0, Length := 0, Open := [] } : Segment)] ++ a.Segments), Routes := a.Routes, Airports := a.Airports, Classes := a.Classes, Rules := a.Rules } : Airspace).Sectors)), (.sl 3 (List.map rConfig ({ Volumes := a.Volumes, Sectors := a.Sectors, Configs := a.Configs, Segments := ([({ Name := a7.Name, In := [], Volume := 0, Length := 0, Open := [] } : Segment)] ++ a.Segments), Routes := a.Routes, Airports := a.Airports, Classes := a.Classes, Rules := a.Rules } : Airspace).Configs)), (.sl 5 (List.map rSegment ({ Volumes := a.Volumes, Sectors := a.Sectors, Configs := a.Configs, Segments := ([({ Name := a7.Name, In := [], Volume := 0, Length := 0, Open := [] } : Segment)] ++ a.Segments), Routes := a.Routes, Airports := a.Airports, Classes := a.Classes, Rules := a.Rules } : Airspace).Segments)), (.sl 7 (List.map rRoute ({ Volumes := a.Volumes, Sectors := a.Sectors, Configs := a.Configs, Segments := ([({ Name := a7.Name, In := [], Volume := 0, Length := 0, Open := [] } : Segment)] ++ a.Segments), Routes := a.Routes, Airports := a.Airports, Classes := a.Classes, Rules := a.Rules } : Airspace).Routes)), (.sl 2 (List.map rAirport ({ Volumes := a.Volumes, Sectors := a.Sectors, Configs := a.Configs, Segments := ([({ Name := a7.Name, In := [], Volume := 0, Length := 0, Open := [] } : Segment)] ++ a.Segments), Routes := a.Routes, Airports := a.Airports, Classes := a.Classes, Rules := a.Rules } : Airspace).Airports)), (.sl 4 (List.map rClass ({ Volumes := a.Volumes, Sectors := a.Sectors, Configs := a.Configs, Segments := ([({ Name := a7.Name, In := [], Volume := 0, Length := 0, Open := [] } : Segment)] ++ a.Segments), Routes := a.Routes, Airports := a.Airports, Classes := a.Classes, Rules := a.Rules } : Airspace).Classes)), (.sl 8 (List.map rRule ({ Volumes := a.Volumes, Sectors := a.Sectors, Configs := a.Configs, Segments := ([({ Name := a7.Name, In := [], Volume := 0, Length := 0, Open := [] } : Segment)] ++ a.Segments), Routes := a.Routes, Airports := a.Airports, Classes := a.Classes, Rules := a.Rules } : Airspace).Rules))]]) rfl ti64 ti31 rfl rfl rfl rfl rfl (.cons (RowSim.refl _) .nil) (fun x => ok_Airspace x) rfl rfl ?_
                    refine of_need fun hl14 => ?_
                    refine wo_append (e := rAirspace) (L := x3) (L2 := [({ Volumes := a.Volumes, Sectors := a.Sectors, Configs := a.Configs, Segments := ([({ Name := a7.Name, In := [], Volume := 0, Length := 0, Open := [] } : Segment)] ++ a.Segments), Routes := a.Routes, Airports := a.Airports, Classes := a.Classes, Rules := a.Rules } : Airspace)]) (v := v20) (g := g26) (st := 8) (j := 4) hI rfl rfl rfl rfl vH20 rfl (src_sl rfl) ti64 ti64 rfl ti31 rfl rfl rfl hl14 fun v23 g30 vH23 => ?_
                    refine wo_val v23 rfl pv_assign ?_
                    refine wo_nil ?_
                    refine wr_hp [(some (.rows g 8 [(rAirspace a)])), none, none, none, (ownO v23 g30 8 (List.map rAirspace (x3 ++ [({ Volumes := a.Volumes, Sectors := a.Sectors, Configs := a.Configs, Segments := ([({ Name := a7.Name, In := [], Volume := 0, Length := 0, Open := [] } : Segment)] ++ a.Segments), Routes := a.Routes, Airports := a.Airports, Classes := a.Classes, Rules := a.Rules } : Airspace)]))), none, none, none, none, none, none, none, none, none, none, none, none, none, none, none, none, none] rfl ?_
                    refine wr_is [(2, (.ptr (ix ids 0) g 0 0)), (7, (.int .i64 (IntKind.wrap .i64 b))), (8, v23)] (.cons rfl (.cons rfl (.cons rfl .nil))) ?_
                    refine hJ7 (x3 ++ [({ Volumes := a.Volumes, Sectors := a.Sectors, Configs := a.Configs, Segments := ([({ Name := a7.Name, In := [], Volume := 0, Length := 0, Open := [] } : Segment)] ++ a.Segments), Routes := a.Routes, Airports := a.Airports, Classes := a.Classes, Rules := a.Rules } : Airspace)]) _ _ ?_
                    exact ⟨v23, g30, vH23, rfl, rfl⟩
                  · refine wr_skip ?_
                    refine wr_is [(2, (.ptr (ix ids 0) g 0 0)), (7, (.int .i64 (IntKind.wrap .i64 b))), (8, v20)] (.cons rfl (.cons rfl (.cons rfl .nil))) ?_
                    refine hJ7 x3 _ _ ?_
                    exact ⟨v20, g26, vH20, rfl, rfl⟩
              · refine wf_ite rfl (fun hc6 => ?_) (fun hc6 => ?_)
                · refine wr_seq ?_
                  refine wr_region ?_
                  refine wo_val (.agg (rAirspace a)) rfl (pv_load (ld_ptr hI rfl rfl rfl ti31 rfl)) ?_
                  refine wo_alloc (j := 9) hI rfl rfl rfl rfl ti31 rfl fun g22 => ?_
                  refine wo_store (st_ptr hI rfl rfl rfl rfl ti31 rfl rfl rfl rfl rfl) ?_
                  refine wo_nil ?_
                  refine wr_hp [(some (.rows g 8 [(rAirspace a)])), none, none, none, (ownO v16 g21 8 (List.map rAirspace x2)), none, none, none, none, (some (.rows g22 8 [(rAirspace a)])), none, none, none, none, none, none, none, none, none, none, none, none] rfl ?_
                  refine wr_seq ?_
                  refine wr_draw hmix [[], [0], [], [], [2, 3], [0, 1, 2, 3, 4], [0, 1, 2, 3, 4, 5], [0, 1, 2, 3, 4, 5, 6], [0, 1, 2, 3, 4, 5, 6, 7], [0, 1, 2, 3, 4, 5, 6, 7, 8], [], [10], [0, 1, 2, 3, 4, 5, 6, 7, 8, 9, 10, 11], [0, 1, 2, 3, 4, 5, 6, 7, 8, 9, 10, 11, 12], [0, 1, 2, 3, 4, 5, 6, 7, 8, 9, 10, 11, 12, 12, 12, 13]] [(false, 0), (false, 1), (false, 2), (false, 3), (false, 4), (false, 5), (false, 6), (false, 7), (false, 8), (false, 10), (false, 11), (true, 9), (true, 12), (false, 13), (true, 14)] (by kernel_rfl) ?_
                  refine wp_val (.ptr (ix ids 0) g 0 4) rfl rfl (pv_fa (fa_ptr (c := 0) (off := 4) (i := 4) ti31 rfl ti26 rfl)) ?_
                  refine wp_val (.sl 7 (List.map rRoute a.Routes)) rfl rfl (pv_load (ld_ptr hI rfl rfl rfl ti26 rfl)) ?_
                  refine wp_val (.int .i64 (IntKind.wrap .i64 b)) rfl rfl pv_move ?_
                  refine wp_val (.int .i64 (a.Routes.length : Int)) rfl rfl pv_move ?_
                  refine op_need fun hz10 => ?_
                  refine wp_val (.int .i64 (Int.tmod (IntKind.wrap .i64 b) (a.Routes.length : Int))) rfl rfl (pv_bin rfl rfl (bin_rem rfl hz10)) ?_
                  refine op_idx fun a6 hz11 hx6 => ?_
                  refine wp_val (.cp (rRoute a6) 0) rfl rfl (pv_ixa (ixa_sl ti26 ti59 rfl hz11 hx6)) ?_
                  refine wp_val (.cp (rRoute a6) 0) rfl rfl (pv_fa (fa_cp (c := 0) (off := 0) (i := 0) ti59 rfl ti9 rfl)) ?_
                  refine wp_val (.str a6.Name) rfl rfl (pv_load (ld_cp ti9 rfl)) ?_
                  refine wp_val (.agg [(.str a6.Name), (.str []), (.str []), (.int .i64 0), (.int .i64 0), .emp, .emp]) rfl rfl (pv_build (bd_st ti59 pl59 rfl)) ?_
                  refine wp_val (.ptr (ix ids 0) g 0 4) rfl rfl (pv_fa (fa_ptr (c := 0) (off := 4) (i := 4) ti31 rfl ti26 rfl)) ?_
                  refine wp_val (.sl 7 (List.map rRoute a.Routes)) rfl rfl (pv_load (ld_ptr hI rfl rfl rfl ti26 rfl)) ?_
                  refine wp_op rfl rfl (fun _ _ => rfl) (fun K hK => eff_bs (e := rRoute) (L := [({ Name := a6.Name, A := [], B := [], From := 0, To := 0, Names := [], Segments := [] } : Route)]) (st := 7) (j := 10) (rows := [[(.str a6.Name), (.str []), (.str []), (.int .i64 0), (.int .i64 0), .emp, .emp]]) hI rfl rfl rfl ti26 ti59 rfl rfl rfl rfl rfl (.cons (.cons (.same _) (.cons (.same _) (.cons (.same _) (.cons (.same _) (.cons (.same _) (.cons (.emp _) (.cons (.emp _) .nil))))))) .nil) (fun x => ok_Route x) rfl rfl rfl fun v17 g23 vH17 => hK _ _ (pend_no rfl (pv_load (ld_ptr hI rfl rfl rfl ti26 rfl)) (pend_no rfl (pv_fa (fa_ptr (c := 0) (off := 4) (i := 4) ti31 rfl ti26 rfl)) (pend_yes rfl (pend_yes rfl (pend_yes rfl (pend_yes rfl (pend_yes rfl (pend_yes rfl (pend_yes rfl (pend_yes rfl (pend_yes rfl pend_nil))))))))))) ?_) 
                  clear hK K
                  refine op_need fun hl11 => ?_
                  refine wp_op rfl rfl (fun _ _ => rfl) (fun K hK => eff_append (e := rRoute) (L := [({ Name := a6.Name, A := [], B := [], From := 0, To := 0, Names := [], Segments := [] } : Route)]) (L2 := a.Routes) (v := v17) (g := g23) (st := 7) (j := 10) hI rfl rfl rfl vH17 rfl (src_sl rfl) ti26 ti26 rfl ti59 rfl rfl rfl hl11 fun v18 g24 vH18 => hK _ _ (pend_yes rfl (pend_yes rfl (pend_yes rfl (pend_yes rfl (pend_yes rfl (pend_yes rfl (pend_yes rfl (pend_yes rfl (pend_yes rfl (pend_yes rfl (pend_yes rfl pend_nil))))))))))) ?_) 
                  clear hK K
                  refine wp_val (.ptr (ix ids 9) g22 0 4) rfl rfl (pv_fa (fa_ptr (c := 0) (off := 4) (i := 4) ti31 rfl ti26 rfl)) ?_
                  refine wp_op0 rfl (fun _ _ => rfl) (fun K hK => eff_store (st_ptrO vH18 hI rfl rfl rfl rfl ti26 rfl rfl rfl) (hK _ _ (pend_yes rfl (pend_yes rfl (pend_yes rfl (pend_yes rfl (pend_yes rfl (pend_yes rfl (pend_yes rfl (pend_yes rfl (pend_yes rfl (pend_yes rfl (pend_yes rfl (pend_yes rfl pend_nil)))))))))))) ?_)) 
                  clear hK K
                  refine wp_nil ?_
                  refine wr_hp [(some (.rows g 8 [(rAirspace a)])), none, none, none, (ownO v16 g21 8 (List.map rAirspace x2)), none, none, none, none, (some (.rows g22 8 [[(.sl 2 (List.map rVolume a.Volumes)), (.sl 5 (List.map rSector a.Sectors)), (.sl 3 (List.map rConfig a.Configs)), (.sl 5 (List.map rSegment a.Segments)), v18, (.sl 2 (List.map rAirport a.Airports)), (.sl 4 (List.map rClass a.Classes)), (.sl 8 (List.map rRule a.Rules))]])), (ownO v18 g24 7 (List.map rRoute ([({ Name := a6.Name, A := [], B := [], From := 0, To := 0, Names := [], Segments := [] } : Route)] ++ a.Routes))), none, none, none, none, none, none, none, none, none, none, none] rfl ?_
                  refine wr_region ?_
                  refine wo_val v16 rfl pv_move ?_
                  refine wo_val (.agg [(.sl 2 (List.map rVolume a.Volumes)), (.sl 5 (List.map rSector a.Sectors)), (.sl 3 (List.map rConfig a.Configs)), (.sl 5 (List.map rSegment a.Segments)), v18, (.sl 2 (List.map rAirport a.Airports)), (.sl 4 (List.map rClass a.Classes)), (.sl 8 (List.map rRule a.Rules))]) rfl (pv_load (ld_ptr hI rfl rfl rfl ti31 rfl)) ?_
                  refine wo_frz (h2 := hp h0 ids [(some (.rows g 8 [(rAirspace a)])), none, none, none, (ownO v16 g21 8 (List.map rAirspace x2)), none, none, none, none, none, none, none, none, none, none, none, none, none, none, none, none, none]) [(2, (.ptr (ix ids 0) g 0 0)), (7, (.int .i64 (IntKind.wrap .i64 b))), (136, v16), (137, (.agg (rAirspace ({ Volumes := a.Volumes, Sectors := a.Sectors, Configs := a.Configs, Segments := a.Segments, Routes := ([({ Name := a6.Name, A := [], B := [], From := 0, To := 0, Names := [], Segments := [] } : Route)] ++ a.Routes), Airports := a.Airports, Classes := a.Classes, Rules := a.Rules } : Airspace))))] (Drops.sub (.keep (.keep (.keep (.keep (.keep (.keep (.keep (.keep (.keep (.drop (.drop (.keep (.keep (.keep (.keep (.keep (.keep (.keep (.keep (.keep (.keep (.keep .nil)))))))))))))))))))))) hI.len) (.cons (.same _) (.cons (.same _) (.cons (.same _) (.cons (.aggL (.cons (.same _) (.cons (.same _) (.cons (.same _) (.cons (.same _) (.cons (own_fz vH18 (hI.at rfl rfl) (hI.at rfl rfl) (fun x => ok_Route x)) (.cons (.same _) (.cons (.same _) (.cons (.same _) .nil))))))))) .nil)))) rfl rfl ?_
                  refine wo_bsC (e := rAirspace) (L := [({ Volumes := a.Volumes, Sectors := a.Sectors, Configs := a.Configs, Segments := a.Segments, Routes := ([({ Name := a6.Name, A := [], B := [], From := 0, To := 0, Names := [], Segments := [] } : Route)] ++ a.Routes), Airports := a.Airports, Classes := a.Classes, Rules := a.Rules } : Airspace)]) (st := 8) (rows := [[(.sl 2 (List.map rVolume ({ Volumes := a.Volumes, Sectors := a.Sectors, Configs := a.Configs, Segments := a.Segments, Routes := ([({ Name := a6.Name, A := [], B := [], From := 0, To := 0, Names := [], Segments := [] } : Route)] ++ a.Routes), Airports := a.Airports, Classes := a.Classes, Rules := a.Rules } : Airspace).Volumes)), (.sl 5 (List.map rSector ({ Volumes := a.Volumes, Sectors := a.Sectors, Configs := a.Configs, Segments := a.Segments, Routes := ([({ Name := a6.Name, A := [], B := [], From := 0, To := 0, Names := [], Segments := [] } : Route)] ++ a.Routes), Airports := a.Airports, Classes := a.Classes, Rules := a.Rules } : Airspace).Sectors)), (.sl 3 (List.map rConfig ({ Volumes := a.Volumes, Sectors := a.Sectors, Configs := a.Configs, Segments := a.Segments, Routes := ([({ Name := a6.Name, A := [], B := [], From := 0, To := 0, Names := [], Segments := [] } : Route)] ++ a.Routes), Airports := a.Airports, Classes := a.Classes, Rules := a.Rules } : Airspace).Configs)), (.sl 5 (List.map rSegment ({ Volumes := a.Volumes, Sectors := a.Sectors, Configs := a.Configs, Segments := a.Segments, Routes := ([({ Name := a6.Name, A := [], B := [], From := 0, To := 0, Names := [], Segments := [] } : Route)] ++ a.Routes), Airports := a.Airports, Classes := a.Classes, Rules := a.Rules } : Airspace).Segments)), (.sl 7 (List.map rRoute ({ Volumes := a.Volumes, Sectors := a.Sectors, Configs := a.Configs, Segments := a.Segments, Routes := ([({ Name := a6.Name, A := [], B := [], From := 0, To := 0, Names := [], Segments := [] } : Route)] ++ a.Routes), Airports := a.Airports, Classes := a.Classes, Rules := a.Rules } : Airspace).Routes)), (.sl 2 (List.map rAirport ({ Volumes := a.Volumes, Sectors := a.Sectors, Configs := a.Configs, Segments := a.Segments, Routes := ([({ Name := a6.Name, A := [], B := [], From := 0, To := 0, Names := [], Segments := [] } : Route)] ++ a.Routes), Airports := a.Airports, Classes := a.Classes, Rules := a.Rules } : Airspace).Airports)), (.sl 4 (List.map rClass ({ Volumes := a.Volumes, Sectors := a.Sectors, Configs := a.Configs, Segments := a.Segments, Routes := ([({ Name := a6.Name, A := [], B := [], From := 0, To := 0, Names := [], Segments := [] } : Route)] ++ a.Routes), Airports := a.Airports, Classes := a.Classes, Rules := a.Rules } : Airspace).Classes)), (.sl 8 (List.map rRule ({ Volumes := a.Volumes, Sectors := a.Sectors, Configs := a.Configs, Segments := a.Segments, Routes := ([({ Name := a6.Name, A := [], B := [], From := 0, To := 0, Names := [], Segments := [] } : Route)] ++ a.Routes), Airports := a.Airports, Classes := a.Classes, Rules := a.Rules } : Airspace).Rules))]]) rfl ti64 ti31 rfl rfl rfl rfl rfl (.cons (RowSim.refl _) .nil) (fun x => ok_Airspace x) rfl rfl ?_
                  refine of_need fun hl12 => ?_
                  refine wo_append (e := rAirspace) (L := x2) (L2 := [({ Volumes := a.Volumes, Sectors := a.Sectors, Configs := a.Configs, Segments := a.Segments, Routes := ([({ Name := a6.Name, A := [], B := [], From := 0, To := 0, Names := [], Segments := [] } : Route)] ++ a.Routes), Airports := a.Airports, Classes := a.Classes, Rules := a.Rules } : Airspace)]) (v := v16) (g := g21) (st := 8) (j := 4) hI rfl rfl rfl rfl vH16 rfl (src_sl rfl) ti64 ti64 rfl ti31 rfl rfl rfl hl12 fun v19 g25 vH19 => ?_
                  refine wo_val v19 rfl pv_assign ?_
                  refine wo_nil ?_
                  refine wr_hp [(some (.rows g 8 [(rAirspace a)])), none, none, none, (ownO v19 g25 8 (List.map rAirspace (x2 ++ [({ Volumes := a.Volumes, Sectors := a.Sectors, Configs := a.Configs, Segments := a.Segments, Routes := ([({ Name := a6.Name, A := [], B := [], From := 0, To := 0, Names := [], Segments := [] } : Route)] ++ a.Routes), Airports := a.Airports, Classes := a.Classes, Rules := a.Rules } : Airspace)]))), none, none, none, none, none, none, none, none, none, none, none, none, none, none, none, none, none] rfl ?_
                  refine wr_is [(2, (.ptr (ix ids 0) g 0 0)), (7, (.int .i64 (IntKind.wrap .i64 b))), (8, v19)] (.cons rfl (.cons rfl (.cons rfl .nil))) ?_
                  refine hJ8 (x2 ++ [({ Volumes := a.Volumes, Sectors := a.Sectors, Configs := a.Configs, Segments := a.Segments, Routes := ([({ Name := a6.Name, A := [], B := [], From := 0, To := 0, Names := [], Segments := [] } : Route)] ++ a.Routes), Airports := a.Airports, Classes := a.Classes, Rules := a.Rules } : Airspace)]) _ _ ?_
                  exact ⟨v19, g25, vH19, rfl, rfl⟩
                · refine wr_skip ?_
                  refine wr_is [(2, (.ptr (ix ids 0) g 0 0)), (7, (.int .i64 (IntKind.wrap .i64 b))), (8, v16)] (.cons rfl (.cons rfl (.cons rfl .nil))) ?_
                  refine hJ8 x2 _ _ ?_
                  exact ⟨v16, g21, vH16, rfl, rfl⟩
            · refine wf_ite rfl (fun hc5 => ?_) (fun hc5 => ?_)
              · refine wr_seq ?_
                refine wr_region ?_
                refine wo_val (.agg (rAirspace a)) rfl (pv_load (ld_ptr hI rfl rfl rfl ti31 rfl)) ?_
                refine wo_alloc (j := 7) hI rfl rfl rfl rfl ti31 rfl fun g17 => ?_
                refine wo_store (st_ptr hI rfl rfl rfl rfl ti31 rfl rfl rfl rfl rfl) ?_
                refine wo_nil ?_
                refine wr_hp [(some (.rows g 8 [(rAirspace a)])), none, none, none, (ownO v12 g16 8 (List.map rAirspace x1)), none, none, (some (.rows g17 8 [(rAirspace a)])), none, none, none, none, none, none, none, none, none, none, none, none, none, none] rfl ?_
                refine wr_seq ?_
                refine wr_draw hmix [[], [0], [], [], [2, 3], [0, 1, 2, 3, 4], [0, 1, 2, 3, 4, 5], [0, 1, 2, 3, 4, 5, 6], [0, 1, 2, 3, 4, 5, 6, 7], [0, 1, 2, 3, 4, 5, 6, 7, 8], [], [10], [0, 1, 2, 3, 4, 5, 6, 7, 8, 9, 10, 11], [0, 1, 2, 3, 4, 5, 6, 7, 8, 9, 10, 11, 12], [0, 1, 2, 3, 4, 5, 6, 7, 8, 9, 10, 11, 12, 12, 12, 13]] [(false, 0), (false, 1), (false, 2), (false, 3), (false, 4), (false, 5), (false, 6), (false, 7), (false, 8), (false, 10), (false, 11), (true, 9), (true, 12), (false, 13), (true, 14)] (by kernel_rfl) ?_
                refine wp_val (.ptr (ix ids 0) g 0 2) rfl rfl (pv_fa (fa_ptr (c := 0) (off := 2) (i := 2) ti31 rfl ti24 rfl)) ?_
                refine wp_val (.sl 3 (List.map rConfig a.Configs)) rfl rfl (pv_load (ld_ptr hI rfl rfl rfl ti24 rfl)) ?_
                refine wp_val (.int .i64 (IntKind.wrap .i64 b)) rfl rfl pv_move ?_
                refine wp_val (.int .i64 (a.Configs.length : Int)) rfl rfl pv_move ?_
                refine op_need fun hz8 => ?_
                refine wp_val (.int .i64 (Int.tmod (IntKind.wrap .i64 b) (a.Configs.length : Int))) rfl rfl (pv_bin rfl rfl (bin_rem rfl hz8)) ?_
                refine op_idx fun a5 hz9 hx5 => ?_
                refine wp_val (.cp (rConfig a5) 0) rfl rfl (pv_ixa (ixa_sl ti24 ti55 rfl hz9 hx5)) ?_
                refine wp_val (.cp (rConfig a5) 0) rfl rfl (pv_fa (fa_cp (c := 0) (off := 0) (i := 0) ti55 rfl ti9 rfl)) ?_
                refine wp_val (.str a5.Name) rfl rfl (pv_load (ld_cp ti9 rfl)) ?_
                refine wp_val (.agg [(.str a5.Name), .emp, .emp]) rfl rfl (pv_build (bd_st ti55 pl55 rfl)) ?_
                refine wp_val (.ptr (ix ids 0) g 0 2) rfl rfl (pv_fa (fa_ptr (c := 0) (off := 2) (i := 2) ti31 rfl ti24 rfl)) ?_
                refine wp_val (.sl 3 (List.map rConfig a.Configs)) rfl rfl (pv_load (ld_ptr hI rfl rfl rfl ti24 rfl)) ?_
                refine wp_op rfl rfl (fun _ _ => rfl) (fun K hK => eff_bs (e := rConfig) (L := [({ Name := a5.Name, Names := [], Sectors := [] } : Config)]) (st := 3) (j := 8) (rows := [[(.str a5.Name), .emp, .emp]]) hI rfl rfl rfl ti24 ti55 rfl rfl rfl rfl rfl (.cons (.cons (.same _) (.cons (.emp _) (.cons (.emp _) .nil))) .nil) (fun x => ok_Config x) rfl rfl rfl fun v13 g18 vH13 => hK _ _ (pend_no rfl (pv_load (ld_ptr hI rfl rfl rfl ti24 rfl)) (pend_no rfl (pv_fa (fa_ptr (c := 0) (off := 2) (i := 2) ti31 rfl ti24 rfl)) (pend_yes rfl (pend_yes rfl (pend_yes rfl (pend_yes rfl (pend_yes rfl (pend_yes rfl (pend_yes rfl (pend_yes rfl (pend_yes rfl pend_nil))))))))))) ?_) 
                clear hK K
                refine op_need fun hl9 => ?_
                refine wp_op rfl rfl (fun _ _ => rfl) (fun K hK => eff_append (e := rConfig) (L := [({ Name := a5.Name, Names := [], Sectors := [] } : Config)]) (L2 := a.Configs) (v := v13) (g := g18) (st := 3) (j := 8) hI rfl rfl rfl vH13 rfl (src_sl rfl) ti24 ti24 rfl ti55 rfl rfl rfl hl9 fun v14 g19 vH14 => hK _ _ (pend_yes rfl (pend_yes rfl (pend_yes rfl (pend_yes rfl (pend_yes rfl (pend_yes rfl (pend_yes rfl (pend_yes rfl (pend_yes rfl (pend_yes rfl (pend_yes rfl pend_nil))))))))))) ?_) 
                clear hK K
                refine wp_val (.ptr (ix ids 7) g17 0 2) rfl rfl (pv_fa (fa_ptr (c := 0) (off := 2) (i := 2) ti31 rfl ti24 rfl)) ?_
                refine wp_op0 rfl (fun _ _ => rfl) (fun K hK => eff_store (st_ptrO vH14 hI rfl rfl rfl rfl ti24 rfl rfl rfl) (hK _ _ (pend_yes rfl (pend_yes rfl (pend_yes rfl (pend_yes rfl (pend_yes rfl (pend_yes rfl (pend_yes rfl (pend_yes rfl (pend_yes rfl (pend_yes rfl (pend_yes rfl (pend_yes rfl pend_nil)))))))))))) ?_)) 
                clear hK K
                refine wp_nil ?_
                refine wr_hp [(some (.rows g 8 [(rAirspace a)])), none, none, none, (ownO v12 g16 8 (List.map rAirspace x1)), none, none, (some (.rows g17 8 [[(.sl 2 (List.map rVolume a.Volumes)), (.sl 5 (List.map rSector a.Sectors)), v14, (.sl 5 (List.map rSegment a.Segments)), (.sl 7 (List.map rRoute a.Routes)), (.sl 2 (List.map rAirport a.Airports)), (.sl 4 (List.map rClass a.Classes)), (.sl 8 (List.map rRule a.Rules))]])), (ownO v14 g19 3 (List.map rConfig ([({ Name := a5.Name, Names := [], Sectors := [] } : Config)] ++ a.Configs))), none, none, none, none, none, none, none, none, none, none, none, none, none] rfl ?_
                refine wr_region ?_
                refine wo_val v12 rfl pv_move ?_
                refine wo_val (.agg [(.sl 2 (List.map rVolume a.Volumes)), (.sl 5 (List.map rSector a.Sectors)), v14, (.sl 5 (List.map rSegment a.Segments)), (.sl 7 (List.map rRoute a.Routes)), (.sl 2 (List.map rAirport a.Airports)), (.sl 4 (List.map rClass a.Classes)), (.sl 8 (List.map rRule a.Rules))]) rfl (pv_load (ld_ptr hI rfl rfl rfl ti31 rfl)) ?_
                refine wo_frz (h2 := hp h0 ids [(some (.rows g 8 [(rAirspace a)])), none, none, none, (ownO v12 g16 8 (List.map rAirspace x1)), none, none, none, none, none, none, none, none, none, none, none, none, none, none, none, none, none]) [(2, (.ptr (ix ids 0) g 0 0)), (7, (.int .i64 (IntKind.wrap .i64 b))), (112, v12), (113, (.agg (rAirspace ({ Volumes := a.Volumes, Sectors := a.Sectors, Configs := ([({ Name := a5.Name, Names := [], Sectors := [] } : Config)] ++ a.Configs), Segments := a.Segments, Routes := a.Routes, Airports := a.Airports, Classes := a.Classes, Rules := a.Rules } : Airspace))))] (Drops.sub (.keep (.keep (.keep (.keep (.keep (.keep (.keep (.drop (.drop (.keep (.keep (.keep (.keep (.keep (.keep (.keep (.keep (.keep (.keep (.keep (.keep (.keep .nil)))))))))))))))))))))) hI.len) (.cons (.same _) (.cons (.same _) (.cons (.same _) (.cons (.aggL (.cons (.same _) (.cons (.same _) (.cons (own_fz vH14 (hI.at rfl rfl) (hI.at rfl rfl) (fun x => ok_Config x)) (.cons (.same _) (.cons (.same _) (.cons (.same _) (.cons (.same _) (.cons (.same _) .nil))))))))) .nil)))) rfl rfl ?_
                refine wo_bsC (e := rAirspace) (L := [({ Volumes := a.Volumes, Sectors := a.Sectors, Configs := ([({ Name := a5.Name, Names := [], Sectors := [] } : Config)] ++ a.Configs), Segments := a.Segments, Routes := a.Routes, Airports := a.Airports, Classes := a.Classes, Rules := a.Rules } : Airspace)]) (st := 8) (rows := [[(.sl 2 (List.map rVolume ({ Volumes := a.Volumes, Sectors := a.Sectors, Configs := ([({ Name := a5.Name, Names := [], Sectors := [] } : Config)] ++ a.Configs), Segments := a.Segments, Routes := a.Routes, Airports := a.Airports, Classes := a.Classes, Rules := a.Rules } : Airspace).Volumes)), (.sl 5 (List.map rSector ({ Volumes := a.Volumes, Sectors := a.Sectors, Configs := ([({ Name := a5.Name, Names := [], Sectors := [] } : Config)] ++ a.Configs), Segments := a.Segments, Routes := a.Routes, Airports := a.Airports, Classes := a.Classes, Rules := a.Rules } : Airspace).Sectors)), (.sl 3 (List.map rConfig ({ Volumes := a.Volumes, Sectors := a.Sectors, Configs := ([({ Name := a5.Name, Names := [], Sectors := [] } : Config)] ++ a.Configs), Segments := a.Segments, Routes := a.Routes, Airports := a.Airports, Classes := a.Classes, Rules := a.Rules } : Airspace).Configs)), (.sl 5 (List.map rSegment ({ Volumes := a.Volumes, Sectors := a.Sectors, Configs := ([({ Name := a5.Name, Names := [], Sectors := [] } : Config)] ++ a.Configs), Segments := a.Segments, Routes := a.Routes, Airports := a.Airports, Classes := a.Classes, Rules := a.Rules } : Airspace).Segments)), (.sl 7 (List.map rRoute ({ Volumes := a.Volumes, Sectors := a.Sectors, Configs := ([({ Name := a5.Name, Names := [], Sectors := [] } : Config)] ++ a.Configs), Segments := a.Segments, Routes := a.Routes, Airports := a.Airports, Classes := a.Classes, Rules := a.Rules } : Airspace).Routes)), (.sl 2 (List.map rAirport ({ Volumes := a.Volumes, Sectors := a.Sectors, Configs := ([({ Name := a5.Name, Names := [], Sectors := [] } : Config)] ++ a.Configs), Segments := a.Segments, Routes := a.Routes, Airports := a.Airports, Classes := a.Classes, Rules := a.Rules } : Airspace).Airports)), (.sl 4 (List.map rClass ({ Volumes := a.Volumes, Sectors := a.Sectors, Configs := ([({ Name := a5.Name, Names := [], Sectors := [] } : Config)] ++ a.Configs), Segments := a.Segments, Routes := a.Routes, Airports := a.Airports, Classes := a.Classes, Rules := a.Rules } : Airspace).Classes)), (.sl 8 (List.map rRule ({ Volumes := a.Volumes, Sectors := a.Sectors, Configs := ([({ Name := a5.Name, Names := [], Sectors := [] } : Config)] ++ a.Configs), Segments := a.Segments, Routes := a.Routes, Airports := a.Airports, Classes := a.Classes, Rules := a.Rules } : Airspace).Rules))]]) rfl ti64 ti31 rfl rfl rfl rfl rfl (.cons (RowSim.refl _) .nil) (fun x => ok_Airspace x) rfl rfl ?_
                refine of_need fun hl10 => ?_
                refine wo_append (e := rAirspace) (L := x1) (L2 := [({ Volumes := a.Volumes, Sectors := a.Sectors, Configs := ([({ Name := a5.Name, Names := [], Sectors := [] } : Config)] ++ a.Configs), Segments := a.Segments, Routes := a.Routes, Airports := a.Airports, Classes := a.Classes, Rules := a.Rules } : Airspace)]) (v := v12) (g := g16) (st := 8) (j := 4) hI rfl rfl rfl rfl vH12 rfl (src_sl rfl) ti64 ti64 rfl ti31 rfl rfl rfl hl10 fun v15 g20 vH15 => ?_
                refine wo_val v15 rfl pv_assign ?_
                refine wo_nil ?_
                refine wr_hp [(some (.rows g 8 [(rAirspace a)])), none, none, none, (ownO v15 g20 8 (List.map rAirspace (x1 ++ [({ Volumes := a.Volumes, Sectors := a.Sectors, Configs := ([({ Name := a5.Name, Names := [], Sectors := [] } : Config)] ++ a.Configs), Segments := a.Segments, Routes := a.Routes, Airports := a.Airports, Classes := a.Classes, Rules := a.Rules } : Airspace)]))), none, none, none, none, none, none, none, none, none, none, none, none, none, none, none, none, none] rfl ?_
                refine wr_is [(2, (.ptr (ix ids 0) g 0 0)), (7, (.int .i64 (IntKind.wrap .i64 b))), (8, v15)] (.cons rfl (.cons rfl (.cons rfl .nil))) ?_
                refine hJ9 (x1 ++ [({ Volumes := a.Volumes, Sectors := a.Sectors, Configs := ([({ Name := a5.Name, Names := [], Sectors := [] } : Config)] ++ a.Configs), Segments := a.Segments, Routes := a.Routes, Airports := a.Airports, Classes := a.Classes, Rules := a.Rules } : Airspace)]) _ _ ?_
                exact ⟨v15, g20, vH15, rfl, rfl⟩
              · refine wr_skip ?_
                refine wr_is [(2, (.ptr (ix ids 0) g 0 0)), (7, (.int .i64 (IntKind.wrap .i64 b))), (8, v12)] (.cons rfl (.cons rfl (.cons rfl .nil))) ?_
                refine hJ9 x1 _ _ ?_
                exact ⟨v12, g16, vH12, rfl, rfl⟩
          · refine wf_ite rfl (fun hc4 => ?_) (fun hc4 => ?_)
            · refine wr_seq ?_
              refine wr_region ?_
              refine wo_val (.agg (rAirspace a)) rfl (pv_load (ld_ptr hI rfl rfl rfl ti31 rfl)) ?_
              refine wo_alloc (j := 5) hI rfl rfl rfl rfl ti31 rfl fun g12 => ?_
              refine wo_store (st_ptr hI rfl rfl rfl rfl ti31 rfl rfl rfl rfl rfl) ?_
              refine wo_nil ?_
              refine wr_hp [(some (.rows g 8 [(rAirspace a)])), none, none, none, (ownO v8 g11 8 (List.map rAirspace x)), (some (.rows g12 8 [(rAirspace a)])), none, none, none, none, none, none, none, none, none, none, none, none, none, none, none, none] rfl ?_
              refine wr_seq ?_
              refine wr_draw hmix [[], [0], [], [], [2, 3], [0, 1, 2, 3, 4], [0, 1, 2, 3, 4, 5], [0, 1, 2, 3, 4, 5, 6], [0, 1, 2, 3, 4, 5, 6, 7], [0, 1, 2, 3, 4, 5, 6, 7, 8], [], [10], [0, 1, 2, 3, 4, 5, 6, 7, 8, 9, 10, 11], [0, 1, 2, 3, 4, 5, 6, 7, 8, 9, 10, 11, 12], [0, 1, 2, 3, 4, 5, 6, 7, 8, 9, 10, 11, 12, 12, 12, 13]] [(false, 0), (false, 1), (false, 2), (false, 3), (false, 4), (false, 5), (false, 6), (false, 7), (false, 8), (false, 10), (false, 11), (true, 9), (true, 12), (false, 13), (true, 14)] (by kernel_rfl) ?_
              refine wp_val (.ptr (ix ids 0) g 0 1) rfl rfl (pv_fa (fa_ptr (c := 0) (off := 1) (i := 1) ti31 rfl ti23 rfl)) ?_
              refine wp_val (.sl 5 (List.map rSector a.Sectors)) rfl rfl (pv_load (ld_ptr hI rfl rfl rfl ti23 rfl)) ?_
              refine wp_val (.int .i64 (IntKind.wrap .i64 b)) rfl rfl pv_move ?_
              refine wp_val (.int .i64 (a.Sectors.length : Int)) rfl rfl pv_move ?_
              refine op_need fun hz6 => ?_
              refine wp_val (.int .i64 (Int.tmod (IntKind.wrap .i64 b) (a.Sectors.length : Int))) rfl rfl (pv_bin rfl rfl (bin_rem rfl hz6)) ?_
              refine op_idx fun a4 hz7 hx4 => ?_
              refine wp_val (.cp (rSector a4) 0) rfl rfl (pv_ixa (ixa_sl ti23 ti53 rfl hz7 hx4)) ?_
              refine wp_val (.cp (rSector a4) 0) rfl rfl (pv_fa (fa_cp (c := 0) (off := 0) (i := 0) ti53 rfl ti9 rfl)) ?_
              refine wp_val (.str a4.Name) rfl rfl (pv_load (ld_cp ti9 rfl)) ?_
              refine wp_val (.agg [(.str a4.Name), .emp, .emp, (.int .i64 0), (.int .i64 0)]) rfl rfl (pv_build (bd_st ti53 pl53 rfl)) ?_
              refine wp_val (.ptr (ix ids 0) g 0 1) rfl rfl (pv_fa (fa_ptr (c := 0) (off := 1) (i := 1) ti31 rfl ti23 rfl)) ?_
              refine wp_val (.sl 5 (List.map rSector a.Sectors)) rfl rfl (pv_load (ld_ptr hI rfl rfl rfl ti23 rfl)) ?_
              refine wp_op rfl rfl (fun _ _ => rfl) (fun K hK => eff_bs (e := rSector) (L := [({ Name := a4.Name, Names := [], Volumes := [], Radar := 0, Procedural := 0 } : Sector)]) (st := 5) (j := 6) (rows := [[(.str a4.Name), .emp, .emp, (.int .i64 0), (.int .i64 0)]]) hI rfl rfl rfl ti23 ti53 rfl rfl rfl rfl rfl (.cons (.cons (.same _) (.cons (.emp _) (.cons (.emp _) (.cons (.same _) (.cons (.same _) .nil))))) .nil) (fun x => ok_Sector x) rfl rfl rfl fun v9 g13 vH9 => hK _ _ (pend_no rfl (pv_load (ld_ptr hI rfl rfl rfl ti23 rfl)) (pend_no rfl (pv_fa (fa_ptr (c := 0) (off := 1) (i := 1) ti31 rfl ti23 rfl)) (pend_yes rfl (pend_yes rfl (pend_yes rfl (pend_yes rfl (pend_yes rfl (pend_yes rfl (pend_yes rfl (pend_yes rfl (pend_yes rfl pend_nil))))))))))) ?_) 
              clear hK K
              refine op_need fun hl7 => ?_
              refine wp_op rfl rfl (fun _ _ => rfl) (fun K hK => eff_append (e := rSector) (L := [({ Name := a4.Name, Names := [], Volumes := [], Radar := 0, Procedural := 0 } : Sector)]) (L2 := a.Sectors) (v := v9) (g := g13) (st := 5) (j := 6) hI rfl rfl rfl vH9 rfl (src_sl rfl) ti23 ti23 rfl ti53 rfl rfl rfl hl7 fun v10 g14 vH10 => hK _ _ (pend_yes rfl (pend_yes rfl (pend_yes rfl (pend_yes rfl (pend_yes rfl (pend_yes rfl (pend_yes rfl (pend_yes rfl (pend_yes rfl (pend_yes rfl (pend_yes rfl pend_nil))))))))))) ?_) 
              clear hK K
              refine wp_val (.ptr (ix ids 5) g12 0 1) rfl rfl (pv_fa (fa_ptr (c := 0) (off := 1) (i := 1) ti31 rfl ti23 rfl)) ?_
              refine wp_op0 rfl (fun _ _ => rfl) (fun K hK => eff_store (st_ptrO vH10 hI rfl rfl rfl rfl ti23 rfl rfl rfl) (hK _ _ (pend_yes rfl (pend_yes rfl (pend_yes rfl (pend_yes rfl (pend_yes rfl (pend_yes rfl (pend_yes rfl (pend_yes rfl (pend_yes rfl (pend_yes rfl (pend_yes rfl (pend_yes rfl pend_nil)))))))))))) ?_)) 
              clear hK K
              refine wp_nil ?_
              refine wr_hp [(some (.rows g 8 [(rAirspace a)])), none, none, none, (ownO v8 g11 8 (List.map rAirspace x)), (some (.rows g12 8 [[(.sl 2 (List.map rVolume a.Volumes)), v10, (.sl 3 (List.map rConfig a.Configs)), (.sl 5 (List.map rSegment a.Segments)), (.sl 7 (List.map rRoute a.Routes)), (.sl 2 (List.map rAirport a.Airports)), (.sl 4 (List.map rClass a.Classes)), (.sl 8 (List.map rRule a.Rules))]])), (ownO v10 g14 5 (List.map rSector ([({ Name := a4.Name, Names := [], Volumes := [], Radar := 0, Procedural := 0 } : Sector)] ++ a.Sectors))), none, none, none, none, none, none, none, none, none, none, none, none, none, none, none] rfl ?_
              refine wr_region ?_
              refine wo_val v8 rfl pv_move ?_
              refine wo_val (.agg [(.sl 2 (List.map rVolume a.Volumes)), v10, (.sl 3 (List.map rConfig a.Configs)), (.sl 5 (List.map rSegment a.Segments)), (.sl 7 (List.map rRoute a.Routes)), (.sl 2 (List.map rAirport a.Airports)), (.sl 4 (List.map rClass a.Classes)), (.sl 8 (List.map rRule a.Rules))]) rfl (pv_load (ld_ptr hI rfl rfl rfl ti31 rfl)) ?_
              refine wo_frz (h2 := hp h0 ids [(some (.rows g 8 [(rAirspace a)])), none, none, none, (ownO v8 g11 8 (List.map rAirspace x)), none, none, none, none, none, none, none, none, none, none, none, none, none, none, none, none, none]) [(2, (.ptr (ix ids 0) g 0 0)), (7, (.int .i64 (IntKind.wrap .i64 b))), (88, v8), (89, (.agg (rAirspace ({ Volumes := a.Volumes, Sectors := ([({ Name := a4.Name, Names := [], Volumes := [], Radar := 0, Procedural := 0 } : Sector)] ++ a.Sectors), Configs := a.Configs, Segments := a.Segments, Routes := a.Routes, Airports := a.Airports, Classes := a.Classes, Rules := a.Rules } : Airspace))))] (Drops.sub (.keep (.keep (.keep (.keep (.keep (.drop (.drop (.keep (.keep (.keep (.keep (.keep (.keep (.keep (.keep (.keep (.keep (.keep (.keep (.keep (.keep (.keep .nil)))))))))))))))))))))) hI.len) (.cons (.same _) (.cons (.same _) (.cons (.same _) (.cons (.aggL (.cons (.same _) (.cons (own_fz vH10 (hI.at rfl rfl) (hI.at rfl rfl) (fun x => ok_Sector x)) (.cons (.same _) (.cons (.same _) (.cons (.same _) (.cons (.same _) (.cons (.same _) (.cons (.same _) .nil))))))))) .nil)))) rfl rfl ?_
              refine wo_bsC (e := rAirspace) (L := [({ Volumes := a.Volumes, Sectors := ([({ Name := a4.Name, Names := [], Volumes := [], Radar := 0, Procedural := 0 } : Sector)] ++ a.Sectors), Configs := a.Configs, Segments := a.Segments, Routes := a.Routes, Airports := a.Airports, Classes := a.Classes, Rules := a.Rules } : Airspace)]) (st := 8) (rows := [[(.sl 2 (List.map rVolume ({ Volumes := a.Volumes, Sectors := ([({ Name := a4.Name, Names := [], Volumes := [], Radar := 0, Procedural := 0 } : Sector)] ++ a.Sectors), Configs := a.Configs, Segments := a.Segments, Routes := a.Routes, Airports := a.Airports, Classes := a.Classes, Rules := a.Rules } : Airspace).Volumes)), (.sl 5 (List.map rSector ({ Volumes := a.Volumes, Sectors := ([({ Name := a4.Name, Names := [], Volumes := [], Radar := 0, Procedural := 0 } : Sector)] ++ a.Sectors), Configs := a.Configs, Segments := a.Segments, Routes := a.Routes, Airports := a.Airports, Classes := a.Classes, Rules := a.Rules } : Airspace).Sectors)), (.sl 3 (List.map rConfig ({ Volumes := a.Volumes, Sectors := ([({ Name := a4.Name, Names := [], Volumes := [], Radar := 0, Procedural := 0 } : Sector)] ++ a.Sectors), Configs := a.Configs, Segments := a.Segments, Routes := a.Routes, Airports := a.Airports, Classes := a.Classes, Rules := a.Rules } : Airspace).Configs)), (.sl 5 (List.map rSegment ({ Volumes := a.Volumes, Sectors := ([({ Name := a4.Name, Names := [], Volumes := [], Radar := 0, Procedural := 0 } : Sector)] ++ a.Sectors), Configs := a.Configs, Segments := a.Segments, Routes := a.Routes, Airports := a.Airports, Classes := a.Classes, Rules := a.Rules } : Airspace).Segments)), (.sl 7 (List.map rRoute ({ Volumes := a.Volumes, Sectors := ([({ Name := a4.Name, Names := [], Volumes := [], Radar := 0, Procedural := 0 } : Sector)] ++ a.Sectors), Configs := a.Configs, Segments := a.Segments, Routes := a.Routes, Airports := a.Airports, Classes := a.Classes, Rules := a.Rules } : Airspace).Routes)), (.sl 2 (List.map rAirport ({ Volumes := a.Volumes, Sectors := ([({ Name := a4.Name, Names := [], Volumes := [], Radar := 0, Procedural := 0 } : Sector)] ++ a.Sectors), Configs := a.Configs, Segments := a.Segments, Routes := a.Routes, Airports := a.Airports, Classes := a.Classes, Rules := a.Rules } : Airspace).Airports)), (.sl 4 (List.map rClass ({ Volumes := a.Volumes, Sectors := ([({ Name := a4.Name, Names := [], Volumes := [], Radar := 0, Procedural := 0 } : Sector)] ++ a.Sectors), Configs := a.Configs, Segments := a.Segments, Routes := a.Routes, Airports := a.Airports, Classes := a.Classes, Rules := a.Rules } : Airspace).Classes)), (.sl 8 (List.map rRule ({ Volumes := a.Volumes, Sectors := ([({ Name := a4.Name, Names := [], Volumes := [], Radar := 0, Procedural := 0 } : Sector)] ++ a.Sectors), Configs := a.Configs, Segments := a.Segments, Routes := a.Routes, Airports := a.Airports, Classes := a.Classes, Rules := a.Rules } : Airspace).Rules))]]) rfl ti64 ti31 rfl rfl rfl rfl rfl (.cons (RowSim.refl _) .nil) (fun x => ok_Airspace x) rfl rfl ?_
              refine of_need fun hl8 => ?_
              refine wo_append (e := rAirspace) (L := x) (L2 := [({ Volumes := a.Volumes, Sectors := ([({ Name := a4.Name, Names := [], Volumes := [], Radar := 0, Procedural := 0 } : Sector)] ++ a.Sectors), Configs := a.Configs, Segments := a.Segments, Routes := a.Routes, Airports := a.Airports, Classes := a.Classes, Rules := a.Rules } : Airspace)]) (v := v8) (g := g11) (st := 8) (j := 4) hI rfl rfl rfl rfl vH8 rfl (src_sl rfl) ti64 ti64 rfl ti31 rfl rfl rfl hl8 fun v11 g15 vH11 => ?_
              refine wo_val v11 rfl pv_assign ?_
              refine wo_nil ?_
              refine wr_hp [(some (.rows g 8 [(rAirspace a)])), none, none, none, (ownO v11 g15 8 (List.map rAirspace (x ++ [({ Volumes := a.Volumes, Sectors := ([({ Name := a4.Name, Names := [], Volumes := [], Radar := 0, Procedural := 0 } : Sector)] ++ a.Sectors), Configs := a.Configs, Segments := a.Segments, Routes := a.Routes, Airports := a.Airports, Classes := a.Classes, Rules := a.Rules } : Airspace)]))), none, none, none, none, none, none, none, none, none, none, none, none, none, none, none, none, none] rfl ?_
              refine wr_is [(2, (.ptr (ix ids 0) g 0 0)), (7, (.int .i64 (IntKind.wrap .i64 b))), (8, v11)] (.cons rfl (.cons rfl (.cons rfl .nil))) ?_
              refine hJ10 (x ++ [({ Volumes := a.Volumes, Sectors := ([({ Name := a4.Name, Names := [], Volumes := [], Radar := 0, Procedural := 0 } : Sector)] ++ a.Sectors), Configs := a.Configs, Segments := a.Segments, Routes := a.Routes, Airports := a.Airports, Classes := a.Classes, Rules := a.Rules } : Airspace)]) _ _ ?_
              exact ⟨v11, g15, vH11, rfl, rfl⟩
            · refine wr_skip ?_
              refine wr_is [(2, (.ptr (ix ids 0) g 0 0)), (7, (.int .i64 (IntKind.wrap .i64 b))), (8, v8)] (.cons rfl (.cons rfl (.cons rfl .nil))) ?_
              refine hJ10 x _ _ ?_
              exact ⟨v8, g11, vH8, rfl, rfl⟩
        · refine wf_ite rfl (fun hc3 => ?_) (fun hc3 => ?_)
          · refine wr_seq ?_
            refine wr_region ?_
            refine wo_val (.agg (rAirspace a)) rfl (pv_load (ld_ptr hI rfl rfl rfl ti31 rfl)) ?_
            refine wo_alloc (j := 2) hI rfl rfl rfl rfl ti31 rfl fun g2 => ?_
            refine wo_store (st_ptr hI rfl rfl rfl rfl ti31 rfl rfl rfl rfl rfl) ?_
            refine wo_nil ?_
            refine wr_hp [(some (.rows g 8 [(rAirspace a)])), (some (.rows g1 8 [(rAirspace r2.1)])), (some (.rows g2 8 [(rAirspace a)])), none, none, none, none, none, none, none, none, none, none, none, none, none, none, none, none, none, none, none] rfl ?_
            refine wr_seq ?_
            refine wf_join (fun l => law09_NamesTwice_j1 a b r l) (fun l => fun (fr : Nat → AV) (h : AHeap) => ∃ (v6 : AV), ∃ (g9 : Nat), OwnV v6 (ix ids 3) g9 l.length ∧ fr = frA [(2, (.ptr (ix ids 0) g 0 0)), (7, (.int .i64 (IntKind.wrap .i64 b))), (8, .emp), (10, (.ptr (ix ids 2) g2 0 0))] ∧ h = hp h0 ids [(some (.rows g 8 [(rAirspace a)])), none, (some (.rows g2 8 [[v6, (.sl 5 (List.map rSector a.Sectors)), (.sl 3 (List.map rConfig a.Configs)), (.sl 5 (List.map rSegment a.Segments)), (.sl 7 (List.map rRoute a.Routes)), (.sl 2 (List.map rAirport a.Airports)), (.sl 4 (List.map rClass a.Classes)), (.sl 8 (List.map rRule a.Rules))]])), (ownO v6 g9 2 (List.map rVolume l)), none, none, none, none, none, none, none, none, none, none, none, none, none, none, none, none, none, none]) ?_ fun hJ => ?_
            · rintro l fr h ⟨v6, g9, vH6, rfl, rfl⟩
              refine wr_mod (law09_NamesTwice_j1.eq_1 _ _ _ _) ?_
              refine wr_region ?_
              refine wo_val .emp rfl pv_move ?_
              refine wo_val (.agg [v6, (.sl 5 (List.map rSector a.Sectors)), (.sl 3 (List.map rConfig a.Configs)), (.sl 5 (List.map rSegment a.Segments)), (.sl 7 (List.map rRoute a.Routes)), (.sl 2 (List.map rAirport a.Airports)), (.sl 4 (List.map rClass a.Classes)), (.sl 8 (List.map rRule a.Rules))]) rfl (pv_load (ld_ptr hI rfl rfl rfl ti31 rfl)) ?_
              refine wo_frz (h2 := hp h0 ids [(some (.rows g 8 [(rAirspace a)])), none, none, none, none, none, none, none, none, none, none, none, none, none, none, none, none, none, none, none, none, none]) [(2, (.ptr (ix ids 0) g 0 0)), (7, (.int .i64 (IntKind.wrap .i64 b))), (64, .emp), (65, (.agg (rAirspace ({ Volumes := l, Sectors := a.Sectors, Configs := a.Configs, Segments := a.Segments, Routes := a.Routes, Airports := a.Airports, Classes := a.Classes, Rules := a.Rules } : Airspace))))] (Drops.sub (.keep (.keep (.drop (.drop (.keep (.keep (.keep (.keep (.keep (.keep (.keep (.keep (.keep (.keep (.keep (.keep (.keep (.keep (.keep (.keep (.keep (.keep .nil)))))))))))))))))))))) hI.len) (.cons (.same _) (.cons (.same _) (.cons (.same _) (.cons (.aggL (.cons (own_fz vH6 (hI.at rfl rfl) (hI.at rfl rfl) (fun x => ok_Volume x)) (.cons (.same _) (.cons (.same _) (.cons (.same _) (.cons (.same _) (.cons (.same _) (.cons (.same _) (.cons (.same _) .nil))))))))) .nil)))) rfl rfl ?_
              refine wo_bsC (e := rAirspace) (L := [({ Volumes := l, Sectors := a.Sectors, Configs := a.Configs, Segments := a.Segments, Routes := a.Routes, Airports := a.Airports, Classes := a.Classes, Rules := a.Rules } : Airspace)]) (st := 8) (rows := [[(.sl 2 (List.map rVolume ({ Volumes := l, Sectors := a.Sectors, Configs := a.Configs, Segments := a.Segments, Routes := a.Routes, Airports := a.Airports, Classes := a.Classes, Rules := a.Rules } : Airspace).Volumes)), (.sl 5 (List.map rSector ({ Volumes := l, Sectors := a.Sectors, Configs := a.Configs, Segments := a.Segments, Routes := a.Routes, Airports := a.Airports, Classes := a.Classes, Rules := a.Rules } : Airspace).Sectors)), (.sl 3 (List.map rConfig ({ Volumes := l, Sectors := a.Sectors, Configs := a.Configs, Segments := a.Segments, Routes := a.Routes, Airports := a.Airports, Classes := a.Classes, Rules := a.Rules } : Airspace).Configs)), (.sl 5 (List.map rSegment ({ Volumes := l, Sectors := a.Sectors, Configs := a.Configs, Segments := a.Segments, Routes := a.Routes, Airports := a.Airports, Classes := a.Classes, Rules := a.Rules } : Airspace).Segments)), (.sl 7 (List.map rRoute ({ Volumes := l, Sectors := a.Sectors, Configs := a.Configs, Segments := a.Segments, Routes := a.Routes, Airports := a.Airports, Classes := a.Classes, Rules := a.Rules } : Airspace).Routes)), (.sl 2 (List.map rAirport ({ Volumes := l, Sectors := a.Sectors, Configs := a.Configs, Segments := a.Segments, Routes := a.Routes, Airports := a.Airports, Classes := a.Classes, Rules := a.Rules } : Airspace).Airports)), (.sl 4 (List.map rClass ({ Volumes := l, Sectors := a.Sectors, Configs := a.Configs, Segments := a.Segments, Routes := a.Routes, Airports := a.Airports, Classes := a.Classes, Rules := a.Rules } : Airspace).Classes)), (.sl 8 (List.map rRule ({ Volumes := l, Sectors := a.Sectors, Configs := a.Configs, Segments := a.Segments, Routes := a.Routes, Airports := a.Airports, Classes := a.Classes, Rules := a.Rules } : Airspace).Rules))]]) rfl ti64 ti31 rfl rfl rfl rfl rfl (.cons (RowSim.refl _) .nil) (fun x => ok_Airspace x) rfl rfl ?_
              refine of_need fun hl6 => ?_
              refine wo_append (e := rAirspace) (L := ([] : List Airspace)) (L2 := [({ Volumes := l, Sectors := a.Sectors, Configs := a.Configs, Segments := a.Segments, Routes := a.Routes, Airports := a.Airports, Classes := a.Classes, Rules := a.Rules } : Airspace)]) (v := .emp) (g := 0) (st := 8) (j := 4) hI rfl rfl rfl rfl .nil rfl (src_sl rfl) ti64 ti64 rfl ti31 rfl rfl rfl (by simpa using hl6) fun v7 g10 vH7 => ?_
              refine wo_val v7 rfl pv_assign ?_
              refine wo_nil ?_
              refine wr_hp [(some (.rows g 8 [(rAirspace a)])), none, none, none, (ownO v7 g10 8 (List.map rAirspace [({ Volumes := l, Sectors := a.Sectors, Configs := a.Configs, Segments := a.Segments, Routes := a.Routes, Airports := a.Airports, Classes := a.Classes, Rules := a.Rules } : Airspace)])), none, none, none, none, none, none, none, none, none, none, none, none, none, none, none, none, none] rfl ?_
              refine wr_is [(2, (.ptr (ix ids 0) g 0 0)), (7, (.int .i64 (IntKind.wrap .i64 b))), (8, v7)] (.cons rfl (.cons rfl (.cons rfl .nil))) ?_
              refine hJ11 [({ Volumes := l, Sectors := a.Sectors, Configs := a.Configs, Segments := a.Segments, Routes := a.Routes, Airports := a.Airports, Classes := a.Classes, Rules := a.Rules } : Airspace)] _ _ ?_
              exact ⟨v7, g10, vH7, rfl, rfl⟩
            · refine wr_drawT hmix (.node 13 3 (.leaf [[], [], [1], [0, 1, 2], [], [4], [], [], [6, 7], [4, 5, 6, 7, 8], [4, 5, 6, 7, 8, 9], [4, 5, 6, 7, 8, 9, 10], [4, 5, 6, 7, 8, 9, 10, 11], [0, 1, 2, 3, 4, 5, 6, 7, 8, 9, 10, 11, 12], [0, 1, 2, 3, 4, 5, 6, 7, 8, 9, 10, 11, 12, 13], [0, 1, 2, 3, 4, 5, 6, 7, 8, 9, 10, 11, 12, 13, 14], [0, 1, 2, 3, 4, 5, 6, 7, 8, 9, 10, 11, 12, 13, 14, 14, 14, 15]] [(false, 1), (false, 2), (false, 4), (false, 5), (false, 6), (false, 7), (false, 8), (false, 9), (false, 10), (false, 11), (false, 12), (true, 0), (true, 3), (true, 13), (true, 14), (false, 15), (true, 16)]) (.node 13 0 (.leaf [[], [], [1], [0, 1, 2, 4, 5, 6, 7, 8, 9, 10, 11, 12, 13], [], [4], [], [], [6, 7], [4, 5, 6, 7, 8], [4, 5, 6, 7, 8, 9], [4, 5, 6, 7, 8, 9, 10], [4, 5, 6, 7, 8, 9, 10, 11], [0, 4, 5, 6, 7, 8, 9, 10, 11, 12], [0, 1, 2, 3, 4, 5, 6, 7, 8, 9, 10, 11, 12, 13], [0, 1, 2, 3, 4, 5, 6, 7, 8, 9, 10, 11, 12, 13, 14], [0, 1, 2, 3, 4, 5, 6, 7, 8, 9, 10, 11, 12, 13, 14, 14, 14, 15]] [(false, 1), (false, 2), (false, 4), (false, 5), (false, 6), (false, 7), (false, 8), (false, 9), (false, 10), (false, 11), (false, 12), (true, 0), (true, 13), (true, 3), (true, 14), (false, 15), (true, 16)]) (.leaf [[4, 5, 6, 7, 8, 9, 10, 11, 12, 13], [], [1], [0, 1, 2, 4, 5, 6, 7, 8, 9, 10, 11, 12, 13], [], [4], [], [], [6, 7], [4, 5, 6, 7, 8], [4, 5, 6, 7, 8, 9], [4, 5, 6, 7, 8, 9, 10], [4, 5, 6, 7, 8, 9, 10, 11], [4, 5, 6, 7, 8, 9, 10, 11, 12], [0, 1, 2, 3, 4, 5, 6, 7, 8, 9, 10, 11, 12, 13], [0, 1, 2, 3, 4, 5, 6, 7, 8, 9, 10, 11, 12, 13, 14], [0, 1, 2, 3, 4, 5, 6, 7, 8, 9, 10, 11, 12, 13, 14, 14, 14, 15]] [(false, 1), (false, 2), (false, 4), (false, 5), (false, 6), (false, 7), (false, 8), (false, 9), (false, 10), (false, 11), (false, 12), (true, 13), (true, 0), (true, 3), (true, 14), (false, 15), (true, 16)]))) (by kernel_rfl) ?_
              refine dt_node ?_ ?_
              · refine dt_leaf ?_
                refine wp_val (.ptr (ix ids 0) g 0 0) rfl rfl (pv_fa (fa_ptr (c := 0) (off := 0) (i := 0) ti31 rfl ti22 rfl)) ?_
                refine wp_val (.sl 2 (List.map rVolume a.Volumes)) rfl rfl (pv_load (ld_ptr hI rfl rfl rfl ti22 rfl)) ?_
                refine wp_val (.ptr (ix ids 0) g 0 0) rfl rfl (pv_fa (fa_ptr (c := 0) (off := 0) (i := 0) ti31 rfl ti22 rfl)) ?_
                refine wp_val (.sl 2 (List.map rVolume a.Volumes)) rfl rfl (pv_load (ld_ptr hI rfl rfl rfl ti22 rfl)) ?_
                refine wp_val (.int .i64 (IntKind.wrap .i64 b)) rfl rfl pv_move ?_
                refine wp_val (.int .i64 (a.Volumes.length : Int)) rfl rfl pv_move ?_
                refine op_need fun hz => ?_
                refine wp_val (.int .i64 (Int.tmod (IntKind.wrap .i64 b) (a.Volumes.length : Int))) rfl rfl (pv_bin rfl rfl (bin_rem rfl hz)) ?_
                refine op_idx fun a1 hz1 hx1 => ?_
                refine wp_val (.cp (rVolume a1) 0) rfl rfl (pv_ixa (ixa_sl ti22 ti41 rfl hz1 hx1)) ?_
                refine wp_val (.cp (rVolume a1) 0) rfl rfl (pv_fa (fa_cp (c := 0) (off := 0) (i := 0) ti41 rfl ti9 rfl)) ?_
                refine wp_val (.str a1.Name) rfl rfl (pv_load (ld_cp ti9 rfl)) ?_
                refine wp_val (.agg [(.str a1.Name), .emp]) rfl rfl (pv_build (bd_st ti41 pl41 rfl)) ?_
                refine wp_op rfl rfl (fun _ _ => rfl) (fun K hK => eff_bs0 ti22 ti41 (hK _ _ (pend_no rfl (pv_build (bd_st ti41 pl41 rfl)) (pend_no rfl (pv_load (ld_cp ti9 rfl)) (pend_no rfl (pv_fa (fa_cp (c := 0) (off := 0) (i := 0) ti41 rfl ti9 rfl)) (pend_no rfl (pv_ixa (ixa_sl ti22 ti41 rfl hz1 hx1)) (pend_no rfl (pv_bin rfl rfl (bin_rem rfl hz)) (pend_no rfl pv_move (pend_no rfl pv_move (pend_no rfl (pv_load (ld_ptr hI rfl rfl rfl ti22 rfl)) (pend_no rfl (pv_fa (fa_ptr (c := 0) (off := 0) (i := 0) ti31 rfl ti22 rfl)) (pend_no rfl (pv_load (ld_ptr hI rfl rfl rfl ti22 rfl)) (pend_no rfl (pv_fa (fa_ptr (c := 0) (off := 0) (i := 0) ti31 rfl ti22 rfl)) pend_nil))))))))))) ?_)) 
                clear hK K
                refine op_need fun hl => ?_
                refine wp_op rfl rfl (fun _ _ => rfl) (fun K hK => eff_append (e := rVolume) (L := ([] : List Volume)) (L2 := a.Volumes) (v := .emp) (g := 0) (st := 2) (j := 3) hI rfl rfl rfl .nil rfl (src_sl rfl) ti22 ti22 rfl ti41 rfl rfl rfl (by simpa using hl) fun v g3 vH => hK _ _ (pend_no rfl (pv_build (bd_st ti41 pl41 rfl)) (pend_no rfl (pv_load (ld_cp ti9 rfl)) (pend_no rfl (pv_fa (fa_cp (c := 0) (off := 0) (i := 0) ti41 rfl ti9 rfl)) (pend_no rfl (pv_ixa (ixa_sl ti22 ti41 rfl hz1 hx1)) (pend_no rfl (pv_bin rfl rfl (bin_rem rfl hz)) (pend_no rfl pv_move (pend_no rfl pv_move (pend_no rfl (pv_load (ld_ptr hI rfl rfl rfl ti22 rfl)) (pend_no rfl (pv_fa (fa_ptr (c := 0) (off := 0) (i := 0) ti31 rfl ti22 rfl)) (pend_yes rfl (pend_yes rfl pend_nil))))))))))) ?_) 
                clear hK K
                refine wp_op rfl rfl (fun _ _ => rfl) (fun K hK => eff_bsC (e := rVolume) (L := [({ Name := a1.Name, Closed := [] } : Volume)]) (st := 2) (rows := [[(.str a1.Name), .emp]]) ti22 ti41 rfl rfl rfl rfl rfl (.cons (.cons (.same _) (.cons (.emp _) .nil)) .nil) (fun x => ok_Volume x) rfl rfl (hK _ _ (pend_yes rfl (pend_yes rfl (pend_yes rfl (pend_yes rfl (pend_yes rfl (pend_yes rfl (pend_yes rfl (pend_yes rfl (pend_yes rfl (pend_yes rfl (pend_yes rfl pend_nil))))))))))) ?_)) 
                clear hK K
                refine op_need fun hl1 => ?_
                refine wp_op rfl rfl (fun _ _ => rfl) (fun K hK => eff_append (e := rVolume) (L := a.Volumes) (L2 := [({ Name := a1.Name, Closed := [] } : Volume)]) (v := v) (g := g3) (st := 2) (j := 3) hI rfl rfl rfl vH rfl (src_sl rfl) ti22 ti22 rfl ti41 rfl rfl rfl hl1 fun v1 g4 vH1 => hK _ _ (pend_yes rfl (pend_yes rfl (pend_yes rfl (pend_yes rfl (pend_yes rfl (pend_yes rfl (pend_yes rfl (pend_yes rfl (pend_yes rfl (pend_yes rfl (pend_yes rfl pend_nil))))))))))) ?_) 
                clear hK K
                refine wp_val (.ptr (ix ids 2) g2 0 0) rfl rfl (pv_fa (fa_ptr (c := 0) (off := 0) (i := 0) ti31 rfl ti22 rfl)) ?_
                refine wp_op0 rfl (fun _ _ => rfl) (fun K hK => eff_store (st_ptrO vH1 hI rfl rfl rfl rfl ti22 rfl rfl rfl) (hK _ _ (pend_yes rfl (pend_yes rfl (pend_yes rfl (pend_yes rfl (pend_yes rfl (pend_yes rfl (pend_yes rfl (pend_yes rfl (pend_yes rfl (pend_yes rfl (pend_yes rfl (pend_yes rfl pend_nil)))))))))))) ?_)) 
                clear hK K
                refine wp_nil ?_
                refine wr_hp [(some (.rows g 8 [(rAirspace a)])), (some (.rows g1 8 [(rAirspace r2.1)])), (some (.rows g2 8 [[v1, (.sl 5 (List.map rSector a.Sectors)), (.sl 3 (List.map rConfig a.Configs)), (.sl 5 (List.map rSegment a.Segments)), (.sl 7 (List.map rRoute a.Routes)), (.sl 2 (List.map rAirport a.Airports)), (.sl 4 (List.map rClass a.Classes)), (.sl 8 (List.map rRule a.Rules))]])), (ownO v1 g4 2 (List.map rVolume (a.Volumes ++ [({ Name := a1.Name, Closed := [] } : Volume)]))), none, none, none, none, none, none, none, none, none, none, none, none, none, none, none, none, none, none] rfl ?_
                refine wr_drop [(some (.rows g 8 [(rAirspace a)])), none, (some (.rows g2 8 [[v1, (.sl 5 (List.map rSector a.Sectors)), (.sl 3 (List.map rConfig a.Configs)), (.sl 5 (List.map rSegment a.Segments)), (.sl 7 (List.map rRoute a.Routes)), (.sl 2 (List.map rAirport a.Airports)), (.sl 4 (List.map rClass a.Classes)), (.sl 8 (List.map rRule a.Rules))]])), (ownO v1 g4 2 (List.map rVolume (a.Volumes ++ [({ Name := a1.Name, Closed := [] } : Volume)]))), none, none, none, none, none, none, none, none, none, none, none, none, none, none, none, none, none, none] hI rfl (.keep (.drop (.keep (.keep (.keep (.keep (.keep (.keep (.keep (.keep (.keep (.keep (.keep (.keep (.keep (.keep (.keep (.keep (.keep (.keep (.keep (.keep .nil)))))))))))))))))))))) ?_
                refine wr_is [(2, (.ptr (ix ids 0) g 0 0)), (7, (.int .i64 (IntKind.wrap .i64 b))), (8, .emp), (10, (.ptr (ix ids 2) g2 0 0))] (.cons rfl (.cons rfl (.cons rfl (.cons rfl .nil)))) ?_
                refine hJ (a.Volumes ++ [({ Name := a1.Name, Closed := [] } : Volume)]) _ _ ?_
                exact ⟨v1, g4, vH1, rfl, rfl⟩
              · refine dt_node ?_ ?_
                · refine dt_leaf ?_
                  refine wp_val (.ptr (ix ids 0) g 0 0) rfl rfl (pv_fa (fa_ptr (c := 0) (off := 0) (i := 0) ti31 rfl ti22 rfl)) ?_
                  refine wp_val (.sl 2 (List.map rVolume a.Volumes)) rfl rfl (pv_load (ld_ptr hI rfl rfl rfl ti22 rfl)) ?_
                  refine wp_val (.ptr (ix ids 0) g 0 0) rfl rfl (pv_fa (fa_ptr (c := 0) (off := 0) (i := 0) ti31 rfl ti22 rfl)) ?_
                  refine wp_val (.sl 2 (List.map rVolume a.Volumes)) rfl rfl (pv_load (ld_ptr hI rfl rfl rfl ti22 rfl)) ?_
                  refine wp_val (.int .i64 (IntKind.wrap .i64 b)) rfl rfl pv_move ?_
                  refine wp_val (.int .i64 (a.Volumes.length : Int)) rfl rfl pv_move ?_
                  refine op_need fun hz2 => ?_
                  refine wp_val (.int .i64 (Int.tmod (IntKind.wrap .i64 b) (a.Volumes.length : Int))) rfl rfl (pv_bin rfl rfl (bin_rem rfl hz2)) ?_
                  refine op_idx fun a2 hz3 hx2 => ?_
                  refine wp_val (.cp (rVolume a2) 0) rfl rfl (pv_ixa (ixa_sl ti22 ti41 rfl hz3 hx2)) ?_
                  refine wp_val (.cp (rVolume a2) 0) rfl rfl (pv_fa (fa_cp (c := 0) (off := 0) (i := 0) ti41 rfl ti9 rfl)) ?_
                  refine wp_val (.str a2.Name) rfl rfl (pv_load (ld_cp ti9 rfl)) ?_
                  refine wp_val (.agg [(.str a2.Name), .emp]) rfl rfl (pv_build (bd_st ti41 pl41 rfl)) ?_
                  refine wp_op rfl rfl (fun _ _ => rfl) (fun K hK => eff_bs0 ti22 ti41 (hK _ _ (pend_no rfl (pv_build (bd_st ti41 pl41 rfl)) (pend_no rfl (pv_load (ld_cp ti9 rfl)) (pend_no rfl (pv_fa (fa_cp (c := 0) (off := 0) (i := 0) ti41 rfl ti9 rfl)) (pend_no rfl (pv_ixa (ixa_sl ti22 ti41 rfl hz3 hx2)) (pend_no rfl (pv_bin rfl rfl (bin_rem rfl hz2)) (pend_no rfl pv_move (pend_no rfl pv_move (pend_no rfl (pv_load (ld_ptr hI rfl rfl rfl ti22 rfl)) (pend_no rfl (pv_fa (fa_ptr (c := 0) (off := 0) (i := 0) ti31 rfl ti22 rfl)) (pend_no rfl (pv_load (ld_ptr hI rfl rfl rfl ti22 rfl)) (pend_no rfl (pv_fa (fa_ptr (c := 0) (off := 0) (i := 0) ti31 rfl ti22 rfl)) pend_nil))))))))))) ?_)) 
                  clear hK K
                  refine wp_op rfl rfl (fun _ _ => rfl) (fun K hK => eff_bsC (e := rVolume) (L := [({ Name := a2.Name, Closed := [] } : Volume)]) (st := 2) (rows := [[(.str a2.Name), .emp]]) ti22 ti41 rfl rfl rfl rfl rfl (.cons (.cons (.same _) (.cons (.emp _) .nil)) .nil) (fun x => ok_Volume x) rfl rfl (hK _ _ (pend_yes rfl (pend_yes rfl (pend_yes rfl (pend_yes rfl (pend_yes rfl (pend_yes rfl (pend_yes rfl (pend_yes rfl (pend_yes rfl (pend_no rfl (pv_load (ld_ptr hI rfl rfl rfl ti22 rfl)) (pend_no rfl (pv_fa (fa_ptr (c := 0) (off := 0) (i := 0) ti31 rfl ti22 rfl)) pend_nil))))))))))) ?_)) 
                  clear hK K
                  refine op_need fun hl2 => ?_
                  refine wp_op rfl rfl (fun _ _ => rfl) (fun K hK => eff_append (e := rVolume) (L := ([] : List Volume)) (L2 := a.Volumes) (v := .emp) (g := 0) (st := 2) (j := 3) hI rfl rfl rfl .nil rfl (src_sl rfl) ti22 ti22 rfl ti41 rfl rfl rfl (by simpa using hl2) fun v2 g5 vH2 => hK _ _ (pend_yes rfl (pend_yes rfl (pend_yes rfl (pend_yes rfl (pend_yes rfl (pend_yes rfl (pend_yes rfl (pend_yes rfl (pend_yes rfl (pend_yes rfl (pend_yes rfl pend_nil))))))))))) ?_) 
                  clear hK K
                  refine op_need fun hl3 => ?_
                  refine wp_op rfl rfl (fun _ _ => rfl) (fun K hK => eff_append (e := rVolume) (L := a.Volumes) (L2 := [({ Name := a2.Name, Closed := [] } : Volume)]) (v := v2) (g := g5) (st := 2) (j := 3) hI rfl rfl rfl vH2 rfl (src_sl rfl) ti22 ti22 rfl ti41 rfl rfl rfl hl3 fun v3 g6 vH3 => hK _ _ (pend_yes rfl (pend_yes rfl (pend_yes rfl (pend_yes rfl (pend_yes rfl (pend_yes rfl (pend_yes rfl (pend_yes rfl (pend_yes rfl (pend_yes rfl (pend_yes rfl pend_nil))))))))))) ?_) 
                  clear hK K
                  refine wp_val (.ptr (ix ids 2) g2 0 0) rfl rfl (pv_fa (fa_ptr (c := 0) (off := 0) (i := 0) ti31 rfl ti22 rfl)) ?_
                  refine wp_op0 rfl (fun _ _ => rfl) (fun K hK => eff_store (st_ptrO vH3 hI rfl rfl rfl rfl ti22 rfl rfl rfl) (hK _ _ (pend_yes rfl (pend_yes rfl (pend_yes rfl (pend_yes rfl (pend_yes rfl (pend_yes rfl (pend_yes rfl (pend_yes rfl (pend_yes rfl (pend_yes rfl (pend_yes rfl (pend_yes rfl pend_nil)))))))))))) ?_)) 
                  clear hK K
                  refine wp_nil ?_
                  refine wr_hp [(some (.rows g 8 [(rAirspace a)])), (some (.rows g1 8 [(rAirspace r2.1)])), (some (.rows g2 8 [[v3, (.sl 5 (List.map rSector a.Sectors)), (.sl 3 (List.map rConfig a.Configs)), (.sl 5 (List.map rSegment a.Segments)), (.sl 7 (List.map rRoute a.Routes)), (.sl 2 (List.map rAirport a.Airports)), (.sl 4 (List.map rClass a.Classes)), (.sl 8 (List.map rRule a.Rules))]])), (ownO v3 g6 2 (List.map rVolume (a.Volumes ++ [({ Name := a2.Name, Closed := [] } : Volume)]))), none, none, none, none, none, none, none, none, none, none, none, none, none, none, none, none, none, none] rfl ?_
                  refine wr_drop [(some (.rows g 8 [(rAirspace a)])), none, (some (.rows g2 8 [[v3, (.sl 5 (List.map rSector a.Sectors)), (.sl 3 (List.map rConfig a.Configs)), (.sl 5 (List.map rSegment a.Segments)), (.sl 7 (List.map rRoute a.Routes)), (.sl 2 (List.map rAirport a.Airports)), (.sl 4 (List.map rClass a.Classes)), (.sl 8 (List.map rRule a.Rules))]])), (ownO v3 g6 2 (List.map rVolume (a.Volumes ++ [({ Name := a2.Name, Closed := [] } : Volume)]))), none, none, none, none, none, none, none, none, none, none, none, none, none, none, none, none, none, none] hI rfl (.keep (.drop (.keep (.keep (.keep (.keep (.keep (.keep (.keep (.keep (.keep (.keep (.keep (.keep (.keep (.keep (.keep (.keep (.keep (.keep (.keep (.keep .nil)))))))))))))))))))))) ?_
                  refine wr_is [(2, (.ptr (ix ids 0) g 0 0)), (7, (.int .i64 (IntKind.wrap .i64 b))), (8, .emp), (10, (.ptr (ix ids 2) g2 0 0))] (.cons rfl (.cons rfl (.cons rfl (.cons rfl .nil)))) ?_
                  refine hJ (a.Volumes ++ [({ Name := a2.Name, Closed := [] } : Volume)]) _ _ ?_
                  exact ⟨v3, g6, vH3, rfl, rfl⟩
                · refine dt_leaf ?_
                  refine wp_val (.ptr (ix ids 0) g 0 0) rfl rfl (pv_fa (fa_ptr (c := 0) (off := 0) (i := 0) ti31 rfl ti22 rfl)) ?_
                  refine wp_val (.sl 2 (List.map rVolume a.Volumes)) rfl rfl (pv_load (ld_ptr hI rfl rfl rfl ti22 rfl)) ?_
                  refine wp_val (.ptr (ix ids 0) g 0 0) rfl rfl (pv_fa (fa_ptr (c := 0) (off := 0) (i := 0) ti31 rfl ti22 rfl)) ?_
                  refine wp_val (.sl 2 (List.map rVolume a.Volumes)) rfl rfl (pv_load (ld_ptr hI rfl rfl rfl ti22 rfl)) ?_
                  refine wp_val (.int .i64 (IntKind.wrap .i64 b)) rfl rfl pv_move ?_
                  refine wp_val (.int .i64 (a.Volumes.length : Int)) rfl rfl pv_move ?_
                  refine op_need fun hz4 => ?_
                  refine wp_val (.int .i64 (Int.tmod (IntKind.wrap .i64 b) (a.Volumes.length : Int))) rfl rfl (pv_bin rfl rfl (bin_rem rfl hz4)) ?_
                  refine op_idx fun a3 hz5 hx3 => ?_
                  refine wp_val (.cp (rVolume a3) 0) rfl rfl (pv_ixa (ixa_sl ti22 ti41 rfl hz5 hx3)) ?_
                  refine wp_val (.cp (rVolume a3) 0) rfl rfl (pv_fa (fa_cp (c := 0) (off := 0) (i := 0) ti41 rfl ti9 rfl)) ?_
                  refine wp_val (.str a3.Name) rfl rfl (pv_load (ld_cp ti9 rfl)) ?_
                  refine wp_val (.agg [(.str a3.Name), .emp]) rfl rfl (pv_build (bd_st ti41 pl41 rfl)) ?_
                  refine wp_op rfl rfl (fun _ _ => rfl) (fun K hK => eff_bsC (e := rVolume) (L := [({ Name := a3.Name, Closed := [] } : Volume)]) (st := 2) (rows := [[(.str a3.Name), .emp]]) ti22 ti41 rfl rfl rfl rfl rfl (.cons (.cons (.same _) (.cons (.emp _) .nil)) .nil) (fun x => ok_Volume x) rfl rfl (hK _ _ (pend_yes rfl (pend_yes rfl (pend_yes rfl (pend_yes rfl (pend_yes rfl (pend_yes rfl (pend_yes rfl (pend_yes rfl (pend_yes rfl (pend_no rfl (pv_load (ld_ptr hI rfl rfl rfl ti22 rfl)) (pend_no rfl (pv_fa (fa_ptr (c := 0) (off := 0) (i := 0) ti31 rfl ti22 rfl)) pend_nil))))))))))) ?_)) 
                  clear hK K
                  refine wp_op rfl rfl (fun _ _ => rfl) (fun K hK => eff_bs0 ti22 ti41 (hK _ _ (pend_yes rfl (pend_yes rfl (pend_yes rfl (pend_yes rfl (pend_yes rfl (pend_yes rfl (pend_yes rfl (pend_yes rfl (pend_yes rfl (pend_no rfl (pv_load (ld_ptr hI rfl rfl rfl ti22 rfl)) (pend_no rfl (pv_fa (fa_ptr (c := 0) (off := 0) (i := 0) ti31 rfl ti22 rfl)) pend_nil))))))))))) ?_)) 
                  clear hK K
                  refine op_need fun hl4 => ?_
                  refine wp_op rfl rfl (fun _ _ => rfl) (fun K hK => eff_append (e := rVolume) (L := ([] : List Volume)) (L2 := a.Volumes) (v := .emp) (g := 0) (st := 2) (j := 3) hI rfl rfl rfl .nil rfl (src_sl rfl) ti22 ti22 rfl ti41 rfl rfl rfl (by simpa using hl4) fun v4 g7 vH4 => hK _ _ (pend_yes rfl (pend_yes rfl (pend_yes rfl (pend_yes rfl (pend_yes rfl (pend_yes rfl (pend_yes rfl (pend_yes rfl (pend_yes rfl (pend_yes rfl (pend_yes rfl pend_nil))))))))))) ?_) 
                  clear hK K
                  refine op_need fun hl5 => ?_
                  refine wp_op rfl rfl (fun _ _ => rfl) (fun K hK => eff_append (e := rVolume) (L := a.Volumes) (L2 := [({ Name := a3.Name, Closed := [] } : Volume)]) (v := v4) (g := g7) (st := 2) (j := 3) hI rfl rfl rfl vH4 rfl (src_sl rfl) ti22 ti22 rfl ti41 rfl rfl rfl hl5 fun v5 g8 vH5 => hK _ _ (pend_yes rfl (pend_yes rfl (pend_yes rfl (pend_yes rfl (pend_yes rfl (pend_yes rfl (pend_yes rfl (pend_yes rfl (pend_yes rfl (pend_yes rfl (pend_yes rfl pend_nil))))))))))) ?_) 
                  clear hK K
                  refine wp_val (.ptr (ix ids 2) g2 0 0) rfl rfl (pv_fa (fa_ptr (c := 0) (off := 0) (i := 0) ti31 rfl ti22 rfl)) ?_
                  refine wp_op0 rfl (fun _ _ => rfl) (fun K hK => eff_store (st_ptrO vH5 hI rfl rfl rfl rfl ti22 rfl rfl rfl) (hK _ _ (pend_yes rfl (pend_yes rfl (pend_yes rfl (pend_yes rfl (pend_yes rfl (pend_yes rfl (pend_yes rfl (pend_yes rfl (pend_yes rfl (pend_yes rfl (pend_yes rfl (pend_yes rfl pend_nil)))))))))))) ?_)) 
                  clear hK K
                  refine wp_nil ?_
                  refine wr_hp [(some (.rows g 8 [(rAirspace a)])), (some (.rows g1 8 [(rAirspace r2.1)])), (some (.rows g2 8 [[v5, (.sl 5 (List.map rSector a.Sectors)), (.sl 3 (List.map rConfig a.Configs)), (.sl 5 (List.map rSegment a.Segments)), (.sl 7 (List.map rRoute a.Routes)), (.sl 2 (List.map rAirport a.Airports)), (.sl 4 (List.map rClass a.Classes)), (.sl 8 (List.map rRule a.Rules))]])), (ownO v5 g8 2 (List.map rVolume (a.Volumes ++ [({ Name := a3.Name, Closed := [] } : Volume)]))), none, none, none, none, none, none, none, none, none, none, none, none, none, none, none, none, none, none] rfl ?_
                  refine wr_drop [(some (.rows g 8 [(rAirspace a)])), none, (some (.rows g2 8 [[v5, (.sl 5 (List.map rSector a.Sectors)), (.sl 3 (List.map rConfig a.Configs)), (.sl 5 (List.map rSegment a.Segments)), (.sl 7 (List.map rRoute a.Routes)), (.sl 2 (List.map rAirport a.Airports)), (.sl 4 (List.map rClass a.Classes)), (.sl 8 (List.map rRule a.Rules))]])), (ownO v5 g8 2 (List.map rVolume (a.Volumes ++ [({ Name := a3.Name, Closed := [] } : Volume)]))), none, none, none, none, none, none, none, none, none, none, none, none, none, none, none, none, none, none] hI rfl (.keep (.drop (.keep (.keep (.keep (.keep (.keep (.keep (.keep (.keep (.keep (.keep (.keep (.keep (.keep (.keep (.keep (.keep (.keep (.keep (.keep (.keep .nil)))))))))))))))))))))) ?_
                  refine wr_is [(2, (.ptr (ix ids 0) g 0 0)), (7, (.int .i64 (IntKind.wrap .i64 b))), (8, .emp), (10, (.ptr (ix ids 2) g2 0 0))] (.cons rfl (.cons rfl (.cons rfl (.cons rfl .nil)))) ?_
                  refine hJ (a.Volumes ++ [({ Name := a3.Name, Closed := [] } : Volume)]) _ _ ?_
                  exact ⟨v5, g8, vH5, rfl, rfl⟩
          · refine wr_skip ?_
            refine wr_drop [(some (.rows g 8 [(rAirspace a)])), none, none, none, none, none, none, none, none, none, none, none, none, none, none, none, none, none, none, none, none, none] hI rfl (.keep (.drop (.keep (.keep (.keep (.keep (.keep (.keep (.keep (.keep (.keep (.keep (.keep (.keep (.keep (.keep (.keep (.keep (.keep (.keep (.keep (.keep .nil)))))))))))))))))))))) ?_
            refine wr_is [(2, (.ptr (ix ids 0) g 0 0)), (7, (.int .i64 (IntKind.wrap .i64 b))), (8, .emp)] (.cons rfl (.cons rfl (.cons rfl .nil))) ?_
            refine hJ11 [] _ _ ?_
            exact ⟨.emp, 0, .nil, rfl, rfl⟩
    · refine wr_seq ?_
      refine wr_region ?_
      refine wo_val (.bool true) rfl pv_assign ?_
      refine wo_nil ?_
      exact wr_ret (a := true) (vs := [(.bool true)]) Try.func7 hI rfl (.same _)
  · refine wr_seq ?_
    refine wr_region ?_
    refine wo_val (.bool false) rfl pv_assign ?_
    refine wo_nil ?_
    exact wr_ret (a := false) (vs := [(.bool false)]) Try.func7 hI rfl (.same _)
end Go.Am

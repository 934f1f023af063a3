/- The models hold of the program. Written by dc.py. -/
import Derived.Test.YtjpafocobkhciaaNmW4
namespace Go.Am
open Go Go.Proofs
set_option maxRecDepth 100000
set_option linter.unusedSimpArgs false
set_option linter.unusedVariables false
theorem cp_ref09_Volume (a : Airspace) (name : Str) : CP Try.prog 16 [(.agg (rAirspace a)), (.str name)] (ref09_Volume a name) (fun (p : (Int × Bool)) => AV.tup [(.int .i64 p.1), (.bool p.2)]) := by
  refine cp_intro (n := 13) 1 Try.func16 rfl (by decide) rfl rfl fun h0 ids hI => ?_
  refine wr_in (wr_mod (ref09_Volume.eq_1 _ _) ?_)
  refine wr_seq ?_
  refine wr_region ?_
  refine wo_box (v := (.agg (rAirspace a))) (j := 0) hI rfl rfl rfl rfl rfl rfl rfl fun g => ?_
  refine wo_val (.int .i64 0) rfl pv_assign ?_
  refine wo_val (.bool false) rfl pv_assign ?_
  refine wo_nil ?_
  refine wr_hp [(some (.rows g 8 [(rAirspace a)]))] rfl ?_
  refine wr_seq ?_
  refine wr_region ?_
  refine wo_val (.agg (rAirspace a)) rfl (pv_load (ld_ptr hI rfl rfl rfl ti31 rfl)) ?_
  refine of_call [(.agg (rAirspace a))] rfl rfl rfl rfl ((cp_ref09_volumes a) _) (fun v _ => wu_pan Try.func16 hI) fun r _ => ?_
  refine wo_val (.str name) rfl pv_move ?_
  refine of_call [(.sl 1 (List.map rS r)), (.str name)] rfl rfl rfl rfl ((cp_ref09_find r name) _) (fun v _ => wu_pan Try.func16 hI) fun r1 _ => ?_
  refine of_call [(.int .i64 r1)] rfl rfl rfl rfl ((cp_ref09_found r1) _) (fun v _ => wu_pan Try.func16 hI) fun r2 _ => ?_
  refine wo_val (.int .i64 r2.1) rfl (pv_ext rfl) ?_
  refine wo_val (.bool r2.2) rfl (pv_ext rfl) ?_
  refine wo_val (.int .i64 r2.1) rfl pv_assign ?_
  refine wo_val (.bool r2.2) rfl pv_assign ?_
  refine wo_nil ?_
  exact wr_ret (a := (r2.1, r2.2)) (vs := [(.int .i64 r2.1), (.bool r2.2)]) Try.func16 hI rfl (.tupL (.cons (.same _) (.cons (.same _) .nil)))

theorem cp_ref09_Airport (a : Airspace) (name : Str) : CP Try.prog 18 [(.agg (rAirspace a)), (.str name)] (ref09_Airport a name) (fun (p : (Int × Bool)) => AV.tup [(.int .i64 p.1), (.bool p.2)]) := by
  refine cp_intro (n := 13) 1 Try.func18 rfl (by decide) rfl rfl fun h0 ids hI => ?_
  refine wr_in (wr_mod (ref09_Airport.eq_1 _ _) ?_)
  refine wr_seq ?_
  refine wr_region ?_
  refine wo_box (v := (.agg (rAirspace a))) (j := 0) hI rfl rfl rfl rfl rfl rfl rfl fun g => ?_
  refine wo_val (.int .i64 0) rfl pv_assign ?_
  refine wo_val (.bool false) rfl pv_assign ?_
  refine wo_nil ?_
  refine wr_hp [(some (.rows g 8 [(rAirspace a)]))] rfl ?_
  refine wr_seq ?_
  refine wr_region ?_
  refine wo_val (.agg (rAirspace a)) rfl (pv_load (ld_ptr hI rfl rfl rfl ti31 rfl)) ?_
  refine of_call [(.agg (rAirspace a))] rfl rfl rfl rfl ((cp_ref09_airports a) _) (fun v _ => wu_pan Try.func18 hI) fun r _ => ?_
  refine wo_val (.str name) rfl pv_move ?_
  refine of_call [(.sl 1 (List.map rS r)), (.str name)] rfl rfl rfl rfl ((cp_ref09_find r name) _) (fun v _ => wu_pan Try.func18 hI) fun r1 _ => ?_
  refine of_call [(.int .i64 r1)] rfl rfl rfl rfl ((cp_ref09_found r1) _) (fun v _ => wu_pan Try.func18 hI) fun r2 _ => ?_
  refine wo_val (.int .i64 r2.1) rfl (pv_ext rfl) ?_
  refine wo_val (.bool r2.2) rfl (pv_ext rfl) ?_
  refine wo_val (.int .i64 r2.1) rfl pv_assign ?_
  refine wo_val (.bool r2.2) rfl pv_assign ?_
  refine wo_nil ?_
  exact wr_ret (a := (r2.1, r2.2)) (vs := [(.int .i64 r2.1), (.bool r2.2)]) Try.func18 hI rfl (.tupL (.cons (.same _) (.cons (.same _) .nil)))

theorem cp_ref09_Class (a : Airspace) (name : Str) : CP Try.prog 20 [(.agg (rAirspace a)), (.str name)] (ref09_Class a name) (fun (p : (Int × Bool)) => AV.tup [(.int .i64 p.1), (.bool p.2)]) := by
  refine cp_intro (n := 13) 1 Try.func20 rfl (by decide) rfl rfl fun h0 ids hI => ?_
  refine wr_in (wr_mod (ref09_Class.eq_1 _ _) ?_)
  refine wr_seq ?_
  refine wr_region ?_
  refine wo_box (v := (.agg (rAirspace a))) (j := 0) hI rfl rfl rfl rfl rfl rfl rfl fun g => ?_
  refine wo_val (.int .i64 0) rfl pv_assign ?_
  refine wo_val (.bool false) rfl pv_assign ?_
  refine wo_nil ?_
  refine wr_hp [(some (.rows g 8 [(rAirspace a)]))] rfl ?_
  refine wr_seq ?_
  refine wr_region ?_
  refine wo_val (.agg (rAirspace a)) rfl (pv_load (ld_ptr hI rfl rfl rfl ti31 rfl)) ?_
  refine of_call [(.agg (rAirspace a))] rfl rfl rfl rfl ((cp_ref09_classes a) _) (fun v _ => wu_pan Try.func20 hI) fun r _ => ?_
  refine wo_val (.str name) rfl pv_move ?_
  refine of_call [(.sl 1 (List.map rS r)), (.str name)] rfl rfl rfl rfl ((cp_ref09_find r name) _) (fun v _ => wu_pan Try.func20 hI) fun r1 _ => ?_
  refine of_call [(.int .i64 r1)] rfl rfl rfl rfl ((cp_ref09_found r1) _) (fun v _ => wu_pan Try.func20 hI) fun r2 _ => ?_
  refine wo_val (.int .i64 r2.1) rfl (pv_ext rfl) ?_
  refine wo_val (.bool r2.2) rfl (pv_ext rfl) ?_
  refine wo_val (.int .i64 r2.1) rfl pv_assign ?_
  refine wo_val (.bool r2.2) rfl pv_assign ?_
  refine wo_nil ?_
  exact wr_ret (a := (r2.1, r2.2)) (vs := [(.int .i64 r2.1), (.bool r2.2)]) Try.func20 hI rfl (.tupL (.cons (.same _) (.cons (.same _) .nil)))

theorem cp_law09_NamesFindSpec (a : Airspace) (b : Str) : CP Try.prog 4 [(.agg (rAirspace a)), (.str b)] (law09_NamesFindSpec a b) (fun (x : Bool) => (AV.bool x)) := by
  refine cp_intro (n := 143) 5 Try.func4 rfl (by decide) rfl rfl fun h0 ids hI => ?_
  refine wr_in (wr_mod (law09_NamesFindSpec.eq_1 _ _) ?_)
  refine wr_seq ?_
  refine wr_region ?_
  refine wo_box (v := (.agg (rAirspace a))) (j := 0) hI rfl rfl rfl rfl rfl rfl rfl fun g => ?_
  refine wo_val (.bool false) rfl pv_assign ?_
  refine wo_nil ?_
  refine wr_hp [(some (.rows g 8 [(rAirspace a)])), none, none, none, none] rfl ?_
  refine wr_seq ?_
  refine wr_seq ?_
  refine wr_region ?_
  refine of_call [] rfl rfl rfl rfl ((cp_law09_sane) _) (fun v _ => wu_pan Try.func4 hI) fun r _ => ?_
  refine wo_val (.bool (!r)) rfl (pv_un rfl) ?_
  refine wo_nil ?_
  refine wf_itebn rfl (fun hc => ?_) (fun hc => ?_)
  · refine wr_skip ?_
    refine wr_seq ?_
    refine wr_seq ?_
    refine wr_region ?_
    refine wo_val (.agg (rAirspace a)) rfl (pv_load (ld_ptr hI rfl rfl rfl ti31 rfl)) ?_
    refine of_call [(.agg (rAirspace a))] rfl rfl rfl rfl ((cp_ref09_Few a) _) (fun v _ => wu_pan Try.func4 hI) fun r1 _ => ?_
    refine wo_val (.bool (!r1)) rfl (pv_un rfl) ?_
    refine wo_nil ?_
    refine wf_itebn rfl (fun hc1 => ?_) (fun hc1 => ?_)
    · refine wr_skip ?_
      refine wr_seq ?_
      refine wr_region ?_
      refine wo_val (.str b) rfl pv_move ?_
      refine wo_bs (e := rS) (L := [b]) (st := 1) (j := 2) hI rfl rfl rfl rfl ti38 ti9 rfl rfl rfl rfl rfl rfl rfl fun v g1 vH => ?_
      refine wo_val v rfl pv_assign ?_
      refine wo_nil ?_
      refine wr_hp [(some (.rows g 8 [(rAirspace a)])), none, (ownO v g1 1 (List.map rS [b])), none, none] rfl ?_
      refine wr_seq ?_
      refine wr_seq ?_
      refine wr_region ?_
      refine wo_val (.ptr (ix ids 0) g 0 0) rfl (pv_fa (fa_ptr (c := 0) (off := 0) (i := 0) ti31 rfl ti22 rfl)) ?_
      refine wo_val (.sl 2 (List.map rVolume a.Volumes)) rfl (pv_load (ld_ptr hI rfl rfl rfl ti22 rfl)) ?_
      refine wo_val (.int .i64 (a.Volumes.length : Int)) rfl (pv_len (len_sl ti22)) ?_
      refine wo_val (.int .i64 0) rfl pv_move ?_
      refine wo_nil ?_
      refine wr_block ?_
      refine wr_is [(2, (.ptr (ix ids 0) g 0 0)), (5, v), (34, (.sl 2 (List.map rVolume a.Volumes))), (35, (.int .i64 (a.Volumes.length : Int))), (36, (.int .i64 0))] (.cons rfl (.cons rfl (.cons rfl (.cons rfl (.cons rfl .nil))))) ?_
      refine wf_eachS' a.Volumes (fun _ a1 => fun x1 => law09_NamesFindSpec_b1 a1 x1) (((fun x1 => (eachS (fun _ a2 => fun x3 => law09_NamesFindSpec_b2 a2 x3) 0 a.Classes x1).bind ((fun x3 => (eachS (fun _ a3 => fun x5 => law09_NamesFindSpec_b3 a3 x5) 0 a.Airports x3).bind ((fun x5 => (each (fun j3 _ => fun x7 => law09_NamesFindSpec_b4 a j3 x7) 0 x5 x5).bind (alt (fun x7 => .ok true) (fun r => .ok r)))))))) : _ → R Bool)
        (fun j => fun x1 => fun (fr : Nat → AV) (h : AHeap) => ∃ (v1 : AV), ∃ (g2 : Nat), OwnV v1 (ix ids 2) g2 x1.length ∧ fr = frA [(2, (.ptr (ix ids 0) g 0 0)), (5, v1), (34, (.sl 2 (List.map rVolume a.Volumes))), (35, (.int .i64 (a.Volumes.length : Int))), (36, (.int .i64 (j : Int)))] ∧ h = hp h0 ids [(some (.rows g 8 [(rAirspace a)])), none, (ownO v1 g2 1 (List.map rS x1)), none, none]) [b] ?_ ?_ ?_
      · exact ⟨v, g1, vH, rfl, rfl⟩
      · rintro j a1 ha1 W hW x1 fr h ⟨v1, g2, vH1, rfl, rfl⟩
        refine wr_mod (m' := law09_NamesFindSpec_b1 a1 x1) rfl (wr_mod (law09_NamesFindSpec_b1.eq_1 _ _) ?_)
        refine wr_seq ?_
        refine wr_region ?_
        refine wo_val (.bool (decide ((j : Int) < (a.Volumes.length : Int)))) rfl (pv_bin rfl rfl rfl) ?_
        refine wo_nil ?_
        refine wr_seq ?_
        refine wr_lim (t := 34) (L := a.Volumes) rfl fun hlim => ?_
        refine wr_condT rfl (Int.ofNat_lt.2 (lt_of_get ha1)) ?_
        refine wr_skip ?_
        refine wr_seq ?_
        refine wr_block ?_
        refine wr_seq ?_
        refine wr_region ?_
        refine wo_val (.cp (rVolume a1) 0) rfl (pv_ixa (ixa_nat ti22 ti41 rfl ha1)) ?_
        refine wo_val (.agg (rVolume a1)) rfl (pv_load (ld_cp ti41 rfl)) ?_
        refine wo_alloc (j := 1) hI rfl rfl rfl rfl ti41 rfl fun g3 => ?_
        refine wo_store (st_ptr hI rfl rfl rfl rfl ti41 rfl rfl rfl rfl rfl) ?_
        refine wo_nil ?_
        refine wr_hp [(some (.rows g 8 [(rAirspace a)])), (some (.rows g3 2 [(rVolume a1)])), (ownO v1 g2 1 (List.map rS x1)), none, none] rfl ?_
        refine wr_region ?_
        refine wo_val v1 rfl pv_move ?_
        refine wo_val (.ptr (ix ids 1) g3 0 0) rfl (pv_fa (fa_ptr (c := 0) (off := 0) (i := 0) ti41 rfl ti9 rfl)) ?_
        refine wo_val (.str a1.Name) rfl (pv_load (ld_ptr hI rfl rfl rfl ti9 rfl)) ?_
        refine wo_bsC (e := rS) (L := [a1.Name]) (st := 1) (rows := [[(.str a1.Name)]]) rfl ti38 ti9 rfl rfl rfl rfl rfl (.cons (RowSim.refl _) .nil) (fun x => ok_S x) rfl rfl ?_
        refine of_need fun hl => ?_
        refine wo_append (e := rS) (L := x1) (L2 := [a1.Name]) (v := v1) (g := g2) (st := 1) (j := 2) hI rfl rfl rfl rfl vH1 rfl (src_sl rfl) ti38 ti38 rfl ti9 rfl rfl rfl hl fun v2 g4 vH2 => ?_
        refine wo_val v2 rfl pv_assign ?_
        refine wo_nil ?_
        refine wr_hp [(some (.rows g 8 [(rAirspace a)])), (some (.rows g3 2 [(rVolume a1)])), (ownO v2 g4 1 (List.map rS (x1 ++ [a1.Name]))), none, none] rfl ?_
        refine wr_inBlock ?_
        refine wr_region ?_
        refine wo_val (.int .i64 (IntKind.wrap .i64 ((j : Int) + 1))) rfl (pv_bin rfl rfl rfl) ?_
        refine wo_val (.int .i64 (IntKind.wrap .i64 ((j : Int) + 1))) rfl pv_move ?_
        refine wo_nil ?_
        refine wr_drop [(some (.rows g 8 [(rAirspace a)])), none, (ownO v2 g4 1 (List.map rS (x1 ++ [a1.Name]))), none, none] hI rfl (.keep (.drop (.keep (.keep (.keep .nil))))) ?_
        refine wr_is [(2, (.ptr (ix ids 0) g 0 0)), (5, v2), (34, (.sl 2 (List.map rVolume a.Volumes))), (35, (.int .i64 (a.Volumes.length : Int))), (36, (.int .i64 ((j + 1 : Nat) : Int)))] (.cons rfl (.cons rfl (.cons rfl (.cons rfl (.cons (inc_ok (lt_of_get ha1) hlim) .nil))))) ?_
        refine wb_S ?_
        refine hW (x1 ++ [a1.Name]) _ _ ?_
        exact ⟨v2, g4, vH2, rfl, rfl⟩
      · rintro x1 fr h ⟨v1, g2, vH1, rfl, rfl⟩
        refine wr_seq ?_
        refine wr_region ?_
        refine wo_val (.bool (decide ((a.Volumes.length : Int) < (a.Volumes.length : Int)))) rfl (pv_bin rfl rfl rfl) ?_
        refine wo_nil ?_
        refine wr_seq ?_
        refine wr_condF rfl (Int.lt_irrefl _) ?_
        refine wr_exit rfl ?_
        refine wr_seq ?_
        refine wr_seq ?_
        refine wr_region ?_
        refine wo_val (.ptr (ix ids 0) g 0 6) rfl (pv_fa (fa_ptr (c := 0) (off := 6) (i := 6) ti31 rfl ti28 rfl)) ?_
        refine wo_val (.sl 4 (List.map rClass a.Classes)) rfl (pv_load (ld_ptr hI rfl rfl rfl ti28 rfl)) ?_
        refine wo_val (.int .i64 (a.Classes.length : Int)) rfl (pv_len (len_sl ti28)) ?_
        refine wo_val (.int .i64 0) rfl pv_move ?_
        refine wo_nil ?_
        refine wr_block ?_
        refine wr_is [(2, (.ptr (ix ids 0) g 0 0)), (5, v1), (47, (.sl 4 (List.map rClass a.Classes))), (48, (.int .i64 (a.Classes.length : Int))), (49, (.int .i64 0))] (.cons rfl (.cons rfl (.cons rfl (.cons rfl (.cons rfl .nil))))) ?_
        refine wf_eachS' a.Classes (fun _ a2 => fun x3 => law09_NamesFindSpec_b2 a2 x3) (((fun x3 => (eachS (fun _ a3 => fun x5 => law09_NamesFindSpec_b3 a3 x5) 0 a.Airports x3).bind ((fun x5 => (each (fun j3 _ => fun x7 => law09_NamesFindSpec_b4 a j3 x7) 0 x5 x5).bind (alt (fun x7 => .ok true) (fun r => .ok r)))))) : _ → R Bool)
          (fun j1 => fun x3 => fun (fr : Nat → AV) (h : AHeap) => ∃ (v3 : AV), ∃ (g5 : Nat), OwnV v3 (ix ids 2) g5 x3.length ∧ fr = frA [(2, (.ptr (ix ids 0) g 0 0)), (5, v3), (47, (.sl 4 (List.map rClass a.Classes))), (48, (.int .i64 (a.Classes.length : Int))), (49, (.int .i64 (j1 : Int)))] ∧ h = hp h0 ids [(some (.rows g 8 [(rAirspace a)])), none, (ownO v3 g5 1 (List.map rS x3)), none, none]) x1 ?_ ?_ ?_
        · exact ⟨v1, g2, vH1, rfl, rfl⟩
        · rintro j1 a2 ha2 W hW1 x3 fr h ⟨v3, g5, vH3, rfl, rfl⟩
          refine wr_mod (m' := law09_NamesFindSpec_b2 a2 x3) rfl (wr_mod (law09_NamesFindSpec_b2.eq_1 _ _) ?_)
          refine wr_seq ?_
          refine wr_region ?_
          refine wo_val (.bool (decide ((j1 : Int) < (a.Classes.length : Int)))) rfl (pv_bin rfl rfl rfl) ?_
          refine wo_nil ?_
          refine wr_seq ?_
          refine wr_lim (t := 47) (L := a.Classes) rfl fun hlim1 => ?_
          refine wr_condT rfl (Int.ofNat_lt.2 (lt_of_get ha2)) ?_
          refine wr_skip ?_
          refine wr_seq ?_
          refine wr_block ?_
          refine wr_seq ?_
          refine wr_region ?_
          refine wo_val (.cp (rClass a2) 0) rfl (pv_ixa (ixa_nat ti28 ti43 rfl ha2)) ?_
          refine wo_val (.agg (rClass a2)) rfl (pv_load (ld_cp ti43 rfl)) ?_
          refine wo_alloc (j := 3) hI rfl rfl rfl rfl ti43 rfl fun g6 => ?_
          refine wo_store (st_ptr hI rfl rfl rfl rfl ti43 rfl rfl rfl rfl rfl) ?_
          refine wo_nil ?_
          refine wr_hp [(some (.rows g 8 [(rAirspace a)])), none, (ownO v3 g5 1 (List.map rS x3)), (some (.rows g6 4 [(rClass a2)])), none] rfl ?_
          refine wr_region ?_
          refine wo_val v3 rfl pv_move ?_
          refine wo_val (.ptr (ix ids 3) g6 0 0) rfl (pv_fa (fa_ptr (c := 0) (off := 0) (i := 0) ti43 rfl ti9 rfl)) ?_
          refine wo_val (.str a2.Name) rfl (pv_load (ld_ptr hI rfl rfl rfl ti9 rfl)) ?_
          refine wo_bsC (e := rS) (L := [a2.Name]) (st := 1) (rows := [[(.str a2.Name)]]) rfl ti38 ti9 rfl rfl rfl rfl rfl (.cons (RowSim.refl _) .nil) (fun x => ok_S x) rfl rfl ?_
          refine of_need fun hl1 => ?_
          refine wo_append (e := rS) (L := x3) (L2 := [a2.Name]) (v := v3) (g := g5) (st := 1) (j := 2) hI rfl rfl rfl rfl vH3 rfl (src_sl rfl) ti38 ti38 rfl ti9 rfl rfl rfl hl1 fun v4 g7 vH4 => ?_
          refine wo_val v4 rfl pv_assign ?_
          refine wo_nil ?_
          refine wr_hp [(some (.rows g 8 [(rAirspace a)])), none, (ownO v4 g7 1 (List.map rS (x3 ++ [a2.Name]))), (some (.rows g6 4 [(rClass a2)])), none] rfl ?_
          refine wr_inBlock ?_
          refine wr_region ?_
          refine wo_val (.int .i64 (IntKind.wrap .i64 ((j1 : Int) + 1))) rfl (pv_bin rfl rfl rfl) ?_
          refine wo_val (.int .i64 (IntKind.wrap .i64 ((j1 : Int) + 1))) rfl pv_move ?_
          refine wo_nil ?_
          refine wr_drop [(some (.rows g 8 [(rAirspace a)])), none, (ownO v4 g7 1 (List.map rS (x3 ++ [a2.Name]))), none, none] hI rfl (.keep (.keep (.keep (.drop (.keep .nil))))) ?_
          refine wr_is [(2, (.ptr (ix ids 0) g 0 0)), (5, v4), (47, (.sl 4 (List.map rClass a.Classes))), (48, (.int .i64 (a.Classes.length : Int))), (49, (.int .i64 ((j1 + 1 : Nat) : Int)))] (.cons rfl (.cons rfl (.cons rfl (.cons rfl (.cons (inc_ok (lt_of_get ha2) hlim1) .nil))))) ?_
          refine wb_S ?_
          refine hW1 (x3 ++ [a2.Name]) _ _ ?_
          exact ⟨v4, g7, vH4, rfl, rfl⟩
        · rintro x3 fr h ⟨v3, g5, vH3, rfl, rfl⟩
          refine wr_seq ?_
          refine wr_region ?_
          refine wo_val (.bool (decide ((a.Classes.length : Int) < (a.Classes.length : Int)))) rfl (pv_bin rfl rfl rfl) ?_
          refine wo_nil ?_
          refine wr_seq ?_
          refine wr_condF rfl (Int.lt_irrefl _) ?_
          refine wr_exit rfl ?_
          refine wr_seq ?_
          refine wr_seq ?_
          refine wr_region ?_
          refine wo_val (.ptr (ix ids 0) g 0 5) rfl (pv_fa (fa_ptr (c := 0) (off := 5) (i := 5) ti31 rfl ti27 rfl)) ?_
          refine wo_val (.sl 2 (List.map rAirport a.Airports)) rfl (pv_load (ld_ptr hI rfl rfl rfl ti27 rfl)) ?_
          refine wo_val (.int .i64 (a.Airports.length : Int)) rfl (pv_len (len_sl ti27)) ?_
          refine wo_val (.int .i64 0) rfl pv_move ?_
          refine wo_nil ?_
          refine wr_block ?_
          refine wr_is [(2, (.ptr (ix ids 0) g 0 0)), (5, v3), (60, (.sl 2 (List.map rAirport a.Airports))), (61, (.int .i64 (a.Airports.length : Int))), (62, (.int .i64 0))] (.cons rfl (.cons rfl (.cons rfl (.cons rfl (.cons rfl .nil))))) ?_
          refine wf_eachS' a.Airports (fun _ a3 => fun x5 => law09_NamesFindSpec_b3 a3 x5) (((fun x5 => (each (fun j3 _ => fun x7 => law09_NamesFindSpec_b4 a j3 x7) 0 x5 x5).bind (alt (fun x7 => .ok true) (fun r => .ok r)))) : _ → R Bool)
            (fun j2 => fun x5 => fun (fr : Nat → AV) (h : AHeap) => ∃ (v5 : AV), ∃ (g8 : Nat), OwnV v5 (ix ids 2) g8 x5.length ∧ fr = frA [(2, (.ptr (ix ids 0) g 0 0)), (5, v5), (60, (.sl 2 (List.map rAirport a.Airports))), (61, (.int .i64 (a.Airports.length : Int))), (62, (.int .i64 (j2 : Int)))] ∧ h = hp h0 ids [(some (.rows g 8 [(rAirspace a)])), none, (ownO v5 g8 1 (List.map rS x5)), none, none]) x3 ?_ ?_ ?_
          · exact ⟨v3, g5, vH3, rfl, rfl⟩
          · rintro j2 a3 ha3 W hW2 x5 fr h ⟨v5, g8, vH5, rfl, rfl⟩
            refine wr_mod (m' := law09_NamesFindSpec_b3 a3 x5) rfl (wr_mod (law09_NamesFindSpec_b3.eq_1 _ _) ?_)
            refine wr_seq ?_
            refine wr_region ?_
            refine wo_val (.bool (decide ((j2 : Int) < (a.Airports.length : Int)))) rfl (pv_bin rfl rfl rfl) ?_
            refine wo_nil ?_
            refine wr_seq ?_
            refine wr_lim (t := 60) (L := a.Airports) rfl fun hlim2 => ?_
            refine wr_condT rfl (Int.ofNat_lt.2 (lt_of_get ha3)) ?_
            refine wr_skip ?_
            refine wr_seq ?_
            refine wr_block ?_
            refine wr_seq ?_
            refine wr_region ?_
            refine wo_val (.cp (rAirport a3) 0) rfl (pv_ixa (ixa_nat ti27 ti46 rfl ha3)) ?_
            refine wo_val (.agg (rAirport a3)) rfl (pv_load (ld_cp ti46 rfl)) ?_
            refine wo_alloc (j := 4) hI rfl rfl rfl rfl ti46 rfl fun g9 => ?_
            refine wo_store (st_ptr hI rfl rfl rfl rfl ti46 rfl rfl rfl rfl rfl) ?_
            refine wo_nil ?_
            refine wr_hp [(some (.rows g 8 [(rAirspace a)])), none, (ownO v5 g8 1 (List.map rS x5)), none, (some (.rows g9 2 [(rAirport a3)]))] rfl ?_
            refine wr_region ?_
            refine wo_val v5 rfl pv_move ?_
            refine wo_val (.ptr (ix ids 4) g9 0 0) rfl (pv_fa (fa_ptr (c := 0) (off := 0) (i := 0) ti46 rfl ti9 rfl)) ?_
            refine wo_val (.str a3.Name) rfl (pv_load (ld_ptr hI rfl rfl rfl ti9 rfl)) ?_
            refine wo_bsC (e := rS) (L := [a3.Name]) (st := 1) (rows := [[(.str a3.Name)]]) rfl ti38 ti9 rfl rfl rfl rfl rfl (.cons (RowSim.refl _) .nil) (fun x => ok_S x) rfl rfl ?_
            refine of_need fun hl2 => ?_
            refine wo_append (e := rS) (L := x5) (L2 := [a3.Name]) (v := v5) (g := g8) (st := 1) (j := 2) hI rfl rfl rfl rfl vH5 rfl (src_sl rfl) ti38 ti38 rfl ti9 rfl rfl rfl hl2 fun v6 g10 vH6 => ?_
            refine wo_val v6 rfl pv_assign ?_
            refine wo_nil ?_
            refine wr_hp [(some (.rows g 8 [(rAirspace a)])), none, (ownO v6 g10 1 (List.map rS (x5 ++ [a3.Name]))), none, (some (.rows g9 2 [(rAirport a3)]))] rfl ?_
            refine wr_inBlock ?_
            refine wr_region ?_
            refine wo_val (.int .i64 (IntKind.wrap .i64 ((j2 : Int) + 1))) rfl (pv_bin rfl rfl rfl) ?_
            refine wo_val (.int .i64 (IntKind.wrap .i64 ((j2 : Int) + 1))) rfl pv_move ?_
            refine wo_nil ?_
            refine wr_drop [(some (.rows g 8 [(rAirspace a)])), none, (ownO v6 g10 1 (List.map rS (x5 ++ [a3.Name]))), none, none] hI rfl (.keep (.keep (.keep (.keep (.drop .nil))))) ?_
            refine wr_is [(2, (.ptr (ix ids 0) g 0 0)), (5, v6), (60, (.sl 2 (List.map rAirport a.Airports))), (61, (.int .i64 (a.Airports.length : Int))), (62, (.int .i64 ((j2 + 1 : Nat) : Int)))] (.cons rfl (.cons rfl (.cons rfl (.cons rfl (.cons (inc_ok (lt_of_get ha3) hlim2) .nil))))) ?_
            refine wb_S ?_
            refine hW2 (x5 ++ [a3.Name]) _ _ ?_
            exact ⟨v6, g10, vH6, rfl, rfl⟩
          · rintro x5 fr h ⟨v5, g8, vH5, rfl, rfl⟩
            refine wr_seq ?_
            refine wr_region ?_
            refine wo_val (.bool (decide ((a.Airports.length : Int) < (a.Airports.length : Int)))) rfl (pv_bin rfl rfl rfl) ?_
            refine wo_nil ?_
            refine wr_seq ?_
            refine wr_condF rfl (Int.lt_irrefl _) ?_
            refine wr_exit rfl ?_
            refine wr_seq ?_
            refine wr_seq ?_
            refine wr_region ?_
            refine wo_val v5 rfl pv_move ?_
            refine wo_val (.int .i64 (x5.length : Int)) rfl (pv_len (OwnV.len vH5 ti38)) ?_
            refine wo_val (.int .i64 0) rfl pv_move ?_
            refine wo_nil ?_
            refine wr_block ?_
            refine wr_limo (t := 5) rfl vH5 fun hlim3 => ?_
            refine wr_is [(2, (.ptr (ix ids 0) g 0 0)), (72, v5), (73, (.int .i64 (x5.length : Int))), (74, (.int .i64 0))] (.cons rfl (.cons rfl (.cons rfl (.cons rfl .nil)))) ?_
            refine wf_each' x5 (fun j3 _ => fun x7 => law09_NamesFindSpec_b4 a j3 x7) ((alt (fun x7 => .ok true) (fun r => .ok r)) : _ → R Bool)
              (fun j3 => fun x7 => fun (fr : Nat → AV) (h : AHeap) => ∃ (v7 : AV), ∃ (g11 : Nat), OwnV v7 (ix ids 2) g11 x7.length ∧ fr = frA [(2, (.ptr (ix ids 0) g 0 0)), (72, v7), (73, (.int .i64 (x5.length : Int))), (74, (.int .i64 (j3 : Int)))] ∧ h = hp h0 ids [(some (.rows g 8 [(rAirspace a)])), none, (ownO v7 g11 1 (List.map rS x7)), none, none]) x5 ?_ ?_ ?_
            · exact ⟨v5, g8, vH5, rfl, rfl⟩
            · rintro j3 a4 ha4 W hW3 x7 fr h ⟨v7, g11, vH7, rfl, rfl⟩
              refine wr_mod (m' := law09_NamesFindSpec_b4 a j3 x7) rfl (wr_mod (law09_NamesFindSpec_b4.eq_1 _ _ _) ?_)
              refine wr_seq ?_
              refine wr_region ?_
              refine wo_val (.bool (decide ((j3 : Int) < (x5.length : Int)))) rfl (pv_bin rfl rfl rfl) ?_
              refine wo_nil ?_
              refine wr_seq ?_
              refine wr_condT rfl (Int.ofNat_lt.2 (lt_of_get ha4)) ?_
              refine wr_skip ?_
              refine wr_seq ?_
              refine wr_block ?_
              refine wr_seq ?_
              refine wr_region ?_
              refine of_idx fun a5 hz hx1 => ?_
              refine wo_val (.ptr (ix ids 2) g11 (j3 : Int).toNat 0) rfl (pv_ixa (ixa_own hI rfl vH7 rfl ti38 ti9 rfl hz hx1)) ?_
              refine wo_val (.str a5) rfl (pv_load (ld_own hI rfl vH7 rfl hx1 ti9 rfl)) ?_
              refine wo_val (.str a5) rfl pv_assign ?_
              refine wo_nil ?_
              refine wr_seq ?_
              refine wr_region ?_
              refine wo_val (.agg (rAirspace a)) rfl (pv_load (ld_ptr hI rfl rfl rfl ti31 rfl)) ?_
              refine wo_val (.str a5) rfl pv_move ?_
              refine of_call [(.agg (rAirspace a)), (.str a5)] rfl rfl rfl rfl ((cp_names_Volume a a5) _) (fun v _ => wu_pan Try.func4 hI) fun r2 _ => ?_
              refine wo_val (.tup [(.int .i64 r2.1), (.bool r2.2)]) rfl pv_move ?_
              refine wo_val (.int .i64 r2.1) rfl (pv_ext rfl) ?_
              refine wo_val (.bool r2.2) rfl (pv_ext rfl) ?_
              refine wo_val (.int .i64 r2.1) rfl pv_assign ?_
              refine wo_val (.bool r2.2) rfl pv_assign ?_
              refine wo_nil ?_
              refine wr_seq ?_
              refine wr_region ?_
              refine wo_val (.agg (rAirspace a)) rfl (pv_load (ld_ptr hI rfl rfl rfl ti31 rfl)) ?_
              refine wo_val (.str a5) rfl pv_move ?_
              refine of_call [(.agg (rAirspace a)), (.str a5)] rfl rfl rfl rfl ((cp_ref09_Volume a a5) _) (fun v _ => wu_pan Try.func4 hI) fun r3 _ => ?_
              refine wo_val (.tup [(.int .i64 r3.1), (.bool r3.2)]) rfl pv_move ?_
              refine wo_val (.int .i64 r3.1) rfl (pv_ext rfl) ?_
              refine wo_val (.bool r3.2) rfl (pv_ext rfl) ?_
              refine wo_val (.int .i64 r3.1) rfl pv_assign ?_
              refine wo_val (.bool r3.2) rfl pv_assign ?_
              refine wo_nil ?_
              refine wr_seq ?_
              refine wr_region ?_
              refine wo_val (.agg (rAirspace a)) rfl (pv_load (ld_ptr hI rfl rfl rfl ti31 rfl)) ?_
              refine wo_val (.str a5) rfl pv_move ?_
              refine of_call [(.agg (rAirspace a)), (.str a5)] rfl rfl rfl rfl ((cp_names_Airport a a5) _) (fun v _ => wu_pan Try.func4 hI) fun r4 _ => ?_
              refine wo_val (.tup [(.int .i64 r4.1), (.bool r4.2)]) rfl pv_move ?_
              refine wo_val (.int .i64 r4.1) rfl (pv_ext rfl) ?_
              refine wo_val (.bool r4.2) rfl (pv_ext rfl) ?_
              refine wo_val (.int .i64 r4.1) rfl pv_assign ?_
              refine wo_val (.bool r4.2) rfl pv_assign ?_
              refine wo_nil ?_
              refine wr_seq ?_
              refine wr_region ?_
              refine wo_val (.agg (rAirspace a)) rfl (pv_load (ld_ptr hI rfl rfl rfl ti31 rfl)) ?_
              refine wo_val (.str a5) rfl pv_move ?_
              refine of_call [(.agg (rAirspace a)), (.str a5)] rfl rfl rfl rfl ((cp_ref09_Airport a a5) _) (fun v _ => wu_pan Try.func4 hI) fun r5 _ => ?_
              refine wo_val (.tup [(.int .i64 r5.1), (.bool r5.2)]) rfl pv_move ?_
              refine wo_val (.int .i64 r5.1) rfl (pv_ext rfl) ?_
              refine wo_val (.bool r5.2) rfl (pv_ext rfl) ?_
              refine wo_val (.int .i64 r5.1) rfl pv_assign ?_
              refine wo_val (.bool r5.2) rfl pv_assign ?_
              refine wo_nil ?_
              refine wr_seq ?_
              refine wr_region ?_
              refine wo_val (.agg (rAirspace a)) rfl (pv_load (ld_ptr hI rfl rfl rfl ti31 rfl)) ?_
              refine wo_val (.str a5) rfl pv_move ?_
              refine of_call [(.agg (rAirspace a)), (.str a5)] rfl rfl rfl rfl ((cp_names_Class a a5) _) (fun v _ => wu_pan Try.func4 hI) fun r6 _ => ?_
              refine wo_val (.tup [(.int .i64 r6.1), (.bool r6.2)]) rfl pv_move ?_
              refine wo_val (.int .i64 r6.1) rfl (pv_ext rfl) ?_
              refine wo_val (.bool r6.2) rfl (pv_ext rfl) ?_
              refine wo_val (.int .i64 r6.1) rfl pv_assign ?_
              refine wo_val (.bool r6.2) rfl pv_assign ?_
              refine wo_nil ?_
              refine wr_seq ?_
              refine wr_region ?_
              refine wo_val (.agg (rAirspace a)) rfl (pv_load (ld_ptr hI rfl rfl rfl ti31 rfl)) ?_
              refine wo_val (.str a5) rfl pv_move ?_
              refine of_call [(.agg (rAirspace a)), (.str a5)] rfl rfl rfl rfl ((cp_ref09_Class a a5) _) (fun v _ => wu_pan Try.func4 hI) fun r7 _ => ?_
              refine wo_val (.tup [(.int .i64 r7.1), (.bool r7.2)]) rfl pv_move ?_
              refine wo_val (.int .i64 r7.1) rfl (pv_ext rfl) ?_
              refine wo_val (.bool r7.2) rfl (pv_ext rfl) ?_
              refine wo_val (.int .i64 r7.1) rfl pv_assign ?_
              refine wo_val (.bool r7.2) rfl pv_assign ?_
              refine wo_nil ?_
              refine wr_seq ?_
              refine wr_region ?_
              refine wo_val (.int .i64 r2.1) rfl pv_move ?_
              refine wo_val (.int .i64 r3.1) rfl pv_move ?_
              refine wo_val (.bool (r2.1 != r3.1)) rfl (pv_bin rfl rfl rfl) ?_
              refine wo_val (.bool (r2.1 != r3.1)) rfl pv_move ?_
              refine wo_meet 4 [(2, (.ptr (ix ids 0) g 0 0)), (18, (.int .i64 r4.1)), (19, (.bool r4.2)), (20, (.int .i64 r5.1)), (21, (.bool r5.2)), (22, (.int .i64 r6.1)), (23, (.bool r6.2)), (24, (.int .i64 r7.1)), (25, (.bool r7.2)), (72, v7), (73, (.int .i64 (x5.length : Int))), (74, (.int .i64 (j3 : Int))), (121, (.bool ((r2.1 != r3.1) || (!(r2.2 == r3.2)))))] ?_ fun hJ => wo_cases (r2.1 != r3.1) (fun hb1 => ?_) (fun hb1 => ?_)
              · refine wo_val (.bool ((r2.1 != r3.1) || (!(r2.2 == r3.2)))) rfl pv_move ?_
                refine wo_meet 4 [(2, (.ptr (ix ids 0) g 0 0)), (19, (.bool r4.2)), (21, (.bool r5.2)), (22, (.int .i64 r6.1)), (23, (.bool r6.2)), (24, (.int .i64 r7.1)), (25, (.bool r7.2)), (72, v7), (73, (.int .i64 (x5.length : Int))), (74, (.int .i64 (j3 : Int))), (126, (.bool (((r2.1 != r3.1) || (!(r2.2 == r3.2))) || (r4.1 != r5.1))))] ?_ fun hJ1 => wo_cases ((r2.1 != r3.1) || (!(r2.2 == r3.2))) (fun hb3 => ?_) (fun hb3 => ?_)
                · refine wo_val (.bool (((r2.1 != r3.1) || (!(r2.2 == r3.2))) || (r4.1 != r5.1))) rfl pv_move ?_
                  refine wo_meet 4 [(2, (.ptr (ix ids 0) g 0 0)), (22, (.int .i64 r6.1)), (23, (.bool r6.2)), (24, (.int .i64 r7.1)), (25, (.bool r7.2)), (72, v7), (73, (.int .i64 (x5.length : Int))), (74, (.int .i64 (j3 : Int))), (131, (.bool ((((r2.1 != r3.1) || (!(r2.2 == r3.2))) || (r4.1 != r5.1)) || (!(r4.2 == r5.2)))))] ?_ fun hJ2 => wo_cases (((r2.1 != r3.1) || (!(r2.2 == r3.2))) || (r4.1 != r5.1)) (fun hb5 => ?_) (fun hb5 => ?_)
                  · refine wo_val (.bool ((((r2.1 != r3.1) || (!(r2.2 == r3.2))) || (r4.1 != r5.1)) || (!(r4.2 == r5.2)))) rfl pv_move ?_
                    refine wo_meet 4 [(2, (.ptr (ix ids 0) g 0 0)), (23, (.bool r6.2)), (25, (.bool r7.2)), (72, v7), (73, (.int .i64 (x5.length : Int))), (74, (.int .i64 (j3 : Int))), (136, (.bool (((((r2.1 != r3.1) || (!(r2.2 == r3.2))) || (r4.1 != r5.1)) || (!(r4.2 == r5.2))) || (r6.1 != r7.1))))] ?_ fun hJ3 => wo_cases ((((r2.1 != r3.1) || (!(r2.2 == r3.2))) || (r4.1 != r5.1)) || (!(r4.2 == r5.2))) (fun hb7 => ?_) (fun hb7 => ?_)
                    · refine wo_val (.bool (((((r2.1 != r3.1) || (!(r2.2 == r3.2))) || (r4.1 != r5.1)) || (!(r4.2 == r5.2))) || (r6.1 != r7.1))) rfl pv_move ?_
                      refine wo_meet 4 [(2, (.ptr (ix ids 0) g 0 0)), (72, v7), (73, (.int .i64 (x5.length : Int))), (74, (.int .i64 (j3 : Int))), (141, (.bool ((((((r2.1 != r3.1) || (!(r2.2 == r3.2))) || (r4.1 != r5.1)) || (!(r4.2 == r5.2))) || (r6.1 != r7.1)) || (!(r6.2 == r7.2)))))] ?_ fun hJ4 => wo_cases (((((r2.1 != r3.1) || (!(r2.2 == r3.2))) || (r4.1 != r5.1)) || (!(r4.2 == r5.2))) || (r6.1 != r7.1)) (fun hb9 => ?_) (fun hb9 => ?_)
                      · refine wo_nil ?_
                        refine wf_iteb rfl (fun hc2 => ?_) (fun hc2 => ?_)
                        · refine wr_seq ?_
                          refine wr_region ?_
                          refine wo_val (.bool false) rfl pv_assign ?_
                          refine wo_nil ?_
                          refine wx_each ?_
                          refine w_altr ?_
                          exact wr_ret (a := false) (vs := [(.bool false)]) Try.func4 hI rfl (.same _)
                        · refine wr_skip ?_
                          refine wr_inBlock ?_
                          refine wr_region ?_
                          refine wo_val (.int .i64 (IntKind.wrap .i64 ((j3 : Int) + 1))) rfl (pv_bin rfl rfl rfl) ?_
                          refine wo_val (.int .i64 (IntKind.wrap .i64 ((j3 : Int) + 1))) rfl pv_move ?_
                          refine wo_nil ?_
                          refine wr_is [(2, (.ptr (ix ids 0) g 0 0)), (72, v7), (73, (.int .i64 (x5.length : Int))), (74, (.int .i64 ((j3 + 1 : Nat) : Int)))] (.cons rfl (.cons rfl (.cons rfl (.cons (inc_ok (lt_of_get ha4) hlim3) .nil)))) ?_
                          refine wb_each ?_
                          refine hW3 x7 _ _ ?_
                          exact ⟨v7, g11, vH7, rfl, rfl⟩
                      · refine wo_not (tj := 137) (b := true) rfl (congrArg AV.bool hb9) rfl rfl ?_
                        refine wo_not (tj := 137) (b := true) rfl (congrArg AV.bool hb9) rfl rfl ?_
                        refine wo_not (tj := 137) (b := true) rfl (congrArg AV.bool hb9) rfl rfl ?_
                        refine wo_val (.bool true) rfl (pv_pick (t := true) (congrArg AV.bool hb9) rfl) ?_
                        exact wo_is [(2, (.ptr (ix ids 0) g 0 0)), (72, v7), (73, (.int .i64 (x5.length : Int))), (74, (.int .i64 (j3 : Int))), (141, (.bool ((((((r2.1 != r3.1) || (!(r2.2 == r3.2))) || (r4.1 != r5.1)) || (!(r4.2 == r5.2))) || (r6.1 != r7.1)) || (!(r6.2 == r7.2)))))] (.cons rfl (.cons rfl (.cons rfl (.cons rfl (.cons (or_t hb9) .nil))))) hJ4
                      · refine wo_valg (tj := 137) (.bool r6.2) rfl (congrArg AV.bool hb9) rfl pv_move ?_
                        refine wo_valg (tj := 137) (.bool r7.2) rfl (congrArg AV.bool hb9) rfl pv_move ?_
                        refine wo_valg (tj := 137) (.bool (!(r6.2 == r7.2))) rfl (congrArg AV.bool hb9) rfl (pv_bin rfl rfl (bin_bne ti4)) ?_
                        refine wo_val (.bool (!(r6.2 == r7.2))) rfl (pv_pick (t := false) (congrArg AV.bool hb9) rfl) ?_
                        exact wo_is [(2, (.ptr (ix ids 0) g 0 0)), (72, v7), (73, (.int .i64 (x5.length : Int))), (74, (.int .i64 (j3 : Int))), (141, (.bool ((((((r2.1 != r3.1) || (!(r2.2 == r3.2))) || (r4.1 != r5.1)) || (!(r4.2 == r5.2))) || (r6.1 != r7.1)) || (!(r6.2 == r7.2)))))] (.cons rfl (.cons rfl (.cons rfl (.cons rfl (.cons (or_f hb9) .nil))))) hJ4
                    · refine wo_not (tj := 132) (b := true) rfl (congrArg AV.bool hb7) rfl rfl ?_
                      refine wo_not (tj := 132) (b := true) rfl (congrArg AV.bool hb7) rfl rfl ?_
                      refine wo_not (tj := 132) (b := true) rfl (congrArg AV.bool hb7) rfl rfl ?_
                      refine wo_val (.bool true) rfl (pv_pick (t := true) (congrArg AV.bool hb7) rfl) ?_
                      exact wo_is [(2, (.ptr (ix ids 0) g 0 0)), (23, (.bool r6.2)), (25, (.bool r7.2)), (72, v7), (73, (.int .i64 (x5.length : Int))), (74, (.int .i64 (j3 : Int))), (136, (.bool (((((r2.1 != r3.1) || (!(r2.2 == r3.2))) || (r4.1 != r5.1)) || (!(r4.2 == r5.2))) || (r6.1 != r7.1))))] (.cons rfl (.cons rfl (.cons rfl (.cons rfl (.cons rfl (.cons rfl (.cons (or_t hb7) .nil))))))) hJ3
                    · refine wo_valg (tj := 132) (.int .i64 r6.1) rfl (congrArg AV.bool hb7) rfl pv_move ?_
                      refine wo_valg (tj := 132) (.int .i64 r7.1) rfl (congrArg AV.bool hb7) rfl pv_move ?_
                      refine wo_valg (tj := 132) (.bool (r6.1 != r7.1)) rfl (congrArg AV.bool hb7) rfl (pv_bin rfl rfl rfl) ?_
                      refine wo_val (.bool (r6.1 != r7.1)) rfl (pv_pick (t := false) (congrArg AV.bool hb7) rfl) ?_
                      exact wo_is [(2, (.ptr (ix ids 0) g 0 0)), (23, (.bool r6.2)), (25, (.bool r7.2)), (72, v7), (73, (.int .i64 (x5.length : Int))), (74, (.int .i64 (j3 : Int))), (136, (.bool (((((r2.1 != r3.1) || (!(r2.2 == r3.2))) || (r4.1 != r5.1)) || (!(r4.2 == r5.2))) || (r6.1 != r7.1))))] (.cons rfl (.cons rfl (.cons rfl (.cons rfl (.cons rfl (.cons rfl (.cons (or_f hb7) .nil))))))) hJ3
                  · refine wo_not (tj := 127) (b := true) rfl (congrArg AV.bool hb5) rfl rfl ?_
                    refine wo_not (tj := 127) (b := true) rfl (congrArg AV.bool hb5) rfl rfl ?_
                    refine wo_not (tj := 127) (b := true) rfl (congrArg AV.bool hb5) rfl rfl ?_
                    refine wo_val (.bool true) rfl (pv_pick (t := true) (congrArg AV.bool hb5) rfl) ?_
                    exact wo_is [(2, (.ptr (ix ids 0) g 0 0)), (22, (.int .i64 r6.1)), (23, (.bool r6.2)), (24, (.int .i64 r7.1)), (25, (.bool r7.2)), (72, v7), (73, (.int .i64 (x5.length : Int))), (74, (.int .i64 (j3 : Int))), (131, (.bool ((((r2.1 != r3.1) || (!(r2.2 == r3.2))) || (r4.1 != r5.1)) || (!(r4.2 == r5.2)))))] (.cons rfl (.cons rfl (.cons rfl (.cons rfl (.cons rfl (.cons rfl (.cons rfl (.cons rfl (.cons (or_t hb5) .nil))))))))) hJ2
                  · refine wo_valg (tj := 127) (.bool r4.2) rfl (congrArg AV.bool hb5) rfl pv_move ?_
                    refine wo_valg (tj := 127) (.bool r5.2) rfl (congrArg AV.bool hb5) rfl pv_move ?_
                    refine wo_valg (tj := 127) (.bool (!(r4.2 == r5.2))) rfl (congrArg AV.bool hb5) rfl (pv_bin rfl rfl (bin_bne ti4)) ?_
                    refine wo_val (.bool (!(r4.2 == r5.2))) rfl (pv_pick (t := false) (congrArg AV.bool hb5) rfl) ?_
                    exact wo_is [(2, (.ptr (ix ids 0) g 0 0)), (22, (.int .i64 r6.1)), (23, (.bool r6.2)), (24, (.int .i64 r7.1)), (25, (.bool r7.2)), (72, v7), (73, (.int .i64 (x5.length : Int))), (74, (.int .i64 (j3 : Int))), (131, (.bool ((((r2.1 != r3.1) || (!(r2.2 == r3.2))) || (r4.1 != r5.1)) || (!(r4.2 == r5.2)))))] (.cons rfl (.cons rfl (.cons rfl (.cons rfl (.cons rfl (.cons rfl (.cons rfl (.cons rfl (.cons (or_f hb5) .nil))))))))) hJ2
                · refine wo_not (tj := 122) (b := true) rfl (congrArg AV.bool hb3) rfl rfl ?_
                  refine wo_not (tj := 122) (b := true) rfl (congrArg AV.bool hb3) rfl rfl ?_
                  refine wo_not (tj := 122) (b := true) rfl (congrArg AV.bool hb3) rfl rfl ?_
                  refine wo_val (.bool true) rfl (pv_pick (t := true) (congrArg AV.bool hb3) rfl) ?_
                  exact wo_is [(2, (.ptr (ix ids 0) g 0 0)), (19, (.bool r4.2)), (21, (.bool r5.2)), (22, (.int .i64 r6.1)), (23, (.bool r6.2)), (24, (.int .i64 r7.1)), (25, (.bool r7.2)), (72, v7), (73, (.int .i64 (x5.length : Int))), (74, (.int .i64 (j3 : Int))), (126, (.bool (((r2.1 != r3.1) || (!(r2.2 == r3.2))) || (r4.1 != r5.1))))] (.cons rfl (.cons rfl (.cons rfl (.cons rfl (.cons rfl (.cons rfl (.cons rfl (.cons rfl (.cons rfl (.cons rfl (.cons (or_t hb3) .nil))))))))))) hJ1
                · refine wo_valg (tj := 122) (.int .i64 r4.1) rfl (congrArg AV.bool hb3) rfl pv_move ?_
                  refine wo_valg (tj := 122) (.int .i64 r5.1) rfl (congrArg AV.bool hb3) rfl pv_move ?_
                  refine wo_valg (tj := 122) (.bool (r4.1 != r5.1)) rfl (congrArg AV.bool hb3) rfl (pv_bin rfl rfl rfl) ?_
                  refine wo_val (.bool (r4.1 != r5.1)) rfl (pv_pick (t := false) (congrArg AV.bool hb3) rfl) ?_
                  exact wo_is [(2, (.ptr (ix ids 0) g 0 0)), (19, (.bool r4.2)), (21, (.bool r5.2)), (22, (.int .i64 r6.1)), (23, (.bool r6.2)), (24, (.int .i64 r7.1)), (25, (.bool r7.2)), (72, v7), (73, (.int .i64 (x5.length : Int))), (74, (.int .i64 (j3 : Int))), (126, (.bool (((r2.1 != r3.1) || (!(r2.2 == r3.2))) || (r4.1 != r5.1))))] (.cons rfl (.cons rfl (.cons rfl (.cons rfl (.cons rfl (.cons rfl (.cons rfl (.cons rfl (.cons rfl (.cons rfl (.cons (or_f hb3) .nil))))))))))) hJ1
              · refine wo_not (tj := 117) (b := true) rfl (congrArg AV.bool hb1) rfl rfl ?_
                refine wo_not (tj := 117) (b := true) rfl (congrArg AV.bool hb1) rfl rfl ?_
                refine wo_not (tj := 117) (b := true) rfl (congrArg AV.bool hb1) rfl rfl ?_
                refine wo_val (.bool true) rfl (pv_pick (t := true) (congrArg AV.bool hb1) rfl) ?_
                exact wo_is [(2, (.ptr (ix ids 0) g 0 0)), (18, (.int .i64 r4.1)), (19, (.bool r4.2)), (20, (.int .i64 r5.1)), (21, (.bool r5.2)), (22, (.int .i64 r6.1)), (23, (.bool r6.2)), (24, (.int .i64 r7.1)), (25, (.bool r7.2)), (72, v7), (73, (.int .i64 (x5.length : Int))), (74, (.int .i64 (j3 : Int))), (121, (.bool ((r2.1 != r3.1) || (!(r2.2 == r3.2)))))] (.cons rfl (.cons rfl (.cons rfl (.cons rfl (.cons rfl (.cons rfl (.cons rfl (.cons rfl (.cons rfl (.cons rfl (.cons rfl (.cons rfl (.cons (or_t hb1) .nil))))))))))))) hJ
              · refine wo_valg (tj := 117) (.bool r2.2) rfl (congrArg AV.bool hb1) rfl pv_move ?_
                refine wo_valg (tj := 117) (.bool r3.2) rfl (congrArg AV.bool hb1) rfl pv_move ?_
                refine wo_valg (tj := 117) (.bool (!(r2.2 == r3.2))) rfl (congrArg AV.bool hb1) rfl (pv_bin rfl rfl (bin_bne ti4)) ?_
                refine wo_val (.bool (!(r2.2 == r3.2))) rfl (pv_pick (t := false) (congrArg AV.bool hb1) rfl) ?_
                exact wo_is [(2, (.ptr (ix ids 0) g 0 0)), (18, (.int .i64 r4.1)), (19, (.bool r4.2)), (20, (.int .i64 r5.1)), (21, (.bool r5.2)), (22, (.int .i64 r6.1)), (23, (.bool r6.2)), (24, (.int .i64 r7.1)), (25, (.bool r7.2)), (72, v7), (73, (.int .i64 (x5.length : Int))), (74, (.int .i64 (j3 : Int))), (121, (.bool ((r2.1 != r3.1) || (!(r2.2 == r3.2)))))] (.cons rfl (.cons rfl (.cons rfl (.cons rfl (.cons rfl (.cons rfl (.cons rfl (.cons rfl (.cons rfl (.cons rfl (.cons rfl (.cons rfl (.cons (or_f hb1) .nil))))))))))))) hJ
            · rintro x7 fr h ⟨v7, g11, vH7, rfl, rfl⟩
              refine wr_mod (alt_inl _ _ _) ?_
              refine wr_seq ?_
              refine wr_region ?_
              refine wo_val (.bool (decide ((x5.length : Int) < (x5.length : Int)))) rfl (pv_bin rfl rfl rfl) ?_
              refine wo_nil ?_
              refine wr_seq ?_
              refine wr_condF rfl (Int.lt_irrefl _) ?_
              refine wr_exit rfl ?_
              refine wr_seq ?_
              refine wr_region ?_
              refine wo_val (.bool true) rfl pv_assign ?_
              refine wo_nil ?_
              exact wr_ret (a := true) (vs := [(.bool true)]) Try.func4 hI rfl (.same _)
    · refine wr_seq ?_
      refine wr_region ?_
      refine wo_val (.bool true) rfl pv_assign ?_
      refine wo_nil ?_
      exact wr_ret (a := true) (vs := [(.bool true)]) Try.func4 hI rfl (.same _)
  · refine wr_seq ?_
    refine wr_region ?_
    refine wo_val (.bool false) rfl pv_assign ?_
    refine wo_nil ?_
    exact wr_ret (a := false) (vs := [(.bool false)]) Try.func4 hI rfl (.same _)
end Go.Am

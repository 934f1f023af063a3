/- The models hold of the program. Written by dc.py. -/
import Derived.Test.YtjpafocobkhciaaNmW0
namespace Go.Am
open Go Go.Proofs
set_option maxRecDepth 100000
set_option linter.unusedSimpArgs false
set_option linter.unusedVariables false
theorem cpm_names_index_Airport_airport (l : (List Airport)) : CPM Try.prog 34 [(.sl 2 (List.map rAirport l)), (.func (.func 35) [] [])] (names_index_Airport_airport l) (fun x : Str => (AV.str x)) (fun x : Int => (AV.int .i64 x)) := by
  refine cpm_intro (n := 36) 1 Try.func34 rfl (by decide) rfl rfl fun h0 ids hI => ?_
  refine wr_in (wr_mod (names_index_Airport_airport.eq_1 _) ?_)
  refine wr_seq ?_
  refine wr_region ?_
  refine wo_val .mnil rfl pv_assign ?_
  refine wo_nil ?_
  refine wr_seq ?_
  refine wr_region ?_
  refine wo_makeMap (j := 0) hI rfl rfl rfl rfl fun g => ?_
  refine wo_val (.map (ix ids 0) g) rfl pv_assign ?_
  refine wo_nil ?_
  refine wr_hp [(some (.mp g (mE (fun x : Str => (AV.str x)) (fun x : Int => (AV.int .i64 x)) []))), none] rfl ?_
  refine wr_seq ?_
  refine wr_seq ?_
  refine wr_region ?_
  refine wo_val (.sl 2 (List.map rAirport l)) rfl pv_move ?_
  refine wo_val (.int .i64 (l.length : Int)) rfl (pv_len (len_sl ti27)) ?_
  refine wo_val (.int .i64 0) rfl pv_move ?_
  refine wo_nil ?_
  refine wr_block ?_
  refine wr_is [(1, (.func (.func 35) [] [])), (5, (.map (ix ids 0) g)), (11, (.sl 2 (List.map rAirport l))), (12, (.int .i64 (l.length : Int))), (13, (.int .i64 0))] (.cons rfl (.cons rfl (.cons rfl (.cons rfl (.cons rfl .nil))))) ?_
  refine wf_eachS' l (fun j a => fun m => names_index_Airport_airport_b1 j a m) (((fun m => .ok m)) : _ → R (List (Str × Int)))
    (fun j => fun m => fun (fr : Nat → AV) (h : AHeap) => fr = frA [(1, (.func (.func 35) [] [])), (5, (.map (ix ids 0) g)), (11, (.sl 2 (List.map rAirport l))), (12, (.int .i64 (l.length : Int))), (13, (.int .i64 (j : Int)))] ∧ h = hp h0 ids [(some (.mp g (mE (fun x : Str => (AV.str x)) (fun x : Int => (AV.int .i64 x)) m))), none]) [] ?_ ?_ ?_
  · exact ⟨rfl, rfl⟩
  · rintro j a ha W hW m fr h ⟨rfl, rfl⟩
    refine wr_mod (m' := names_index_Airport_airport_b1 j a m) rfl (wr_mod (names_index_Airport_airport_b1.eq_1 _ _ _) ?_)
    refine wr_seq ?_
    refine wr_region ?_
    refine wo_val (.bool (decide ((j : Int) < (l.length : Int)))) rfl (pv_bin rfl rfl rfl) ?_
    refine wo_nil ?_
    refine wr_seq ?_
    refine wr_lim (t := 11) (L := l) rfl fun hlim => ?_
    refine wr_condT rfl (Int.ofNat_lt.2 (lt_of_get ha)) ?_
    refine wr_skip ?_
    refine wr_seq ?_
    refine wr_block ?_
    refine wr_seq ?_
    refine wr_region ?_
    refine wo_val (.int .i64 (j : Int)) rfl pv_move ?_
    refine wo_val (.cp (rAirport a) 0) rfl (pv_ixa (ixa_nat ti27 ti46 rfl ha)) ?_
    refine wo_val (.agg (rAirport a)) rfl (pv_load (ld_cp ti46 rfl)) ?_
    refine wo_alloc (j := 1) hI rfl rfl rfl rfl ti46 rfl fun g1 => ?_
    refine wo_val (.int .i64 (j : Int)) rfl pv_assign ?_
    refine wo_store (st_ptr hI rfl rfl rfl rfl ti46 rfl rfl rfl rfl rfl) ?_
    refine wo_nil ?_
    refine wr_hp [(some (.mp g (mE (fun x : Str => (AV.str x)) (fun x : Int => (AV.int .i64 x)) m))), (some (.rows g1 2 [(rAirport a)]))] rfl ?_
    refine wr_seq ?_
    refine wr_region ?_
    refine wo_val (.map (ix ids 0) g) rfl pv_move ?_
    refine wo_val (.func (.func 35) [] []) rfl pv_move ?_
    refine wo_val (.agg (rAirport a)) rfl (pv_load (ld_ptr hI rfl rfl rfl ti46 rfl)) ?_
    refine of_call [(.agg (rAirport a))] rfl rfl rfl rfl ((cp_names_airport a) _) (fun v _ => wu_panM Try.func34 hI) fun r _ => ?_
    refine wo_val (.tup [(.int .i64 (Option.getD (mget m r) 0)), (.bool (Option.isSome (mget m r)))]) rfl (pv_look (look_map (eK := (fun x : Str => (AV.str x))) (eV := (fun x : Int => (AV.int .i64 x))) (zv := 0) (mapOf_at (hI.at rfl rfl)) ti70 ti9 ti3 keyE_str rfl).2) ?_
    refine wo_val (.tup [(.int .i64 (Option.getD (mget m r) 0)), (.bool (Option.isSome (mget m r)))]) rfl pv_move ?_
    refine wo_val (.int .i64 (Option.getD (mget m r) 0)) rfl (pv_ext rfl) ?_
    refine wo_val (.bool (Option.isSome (mget m r))) rfl (pv_ext rfl) ?_
    refine wo_val (.int .i64 (Option.getD (mget m r) 0)) rfl pv_assign ?_
    refine wo_val (.bool (Option.isSome (mget m r))) rfl pv_assign ?_
    refine wo_nil ?_
    refine wr_seq ?_
    refine wr_region ?_
    refine wo_val (.bool (Option.isSome (mget m r))) rfl pv_move ?_
    refine wo_val (.bool (!(Option.isSome (mget m r)))) rfl (pv_un rfl) ?_
    refine of_call [(.bool (!(Option.isSome (mget m r)))), (.int .i64 91)] rfl rfl rfl rfl ((cp_names_must (!(Option.isSome (mget m r))) 91) _) (fun v _ => wu_panM Try.func34 hI) fun _ _ => ?_
    refine wo_nil ?_
    refine wr_region ?_
    refine wo_val (.map (ix ids 0) g) rfl pv_move ?_
    refine wo_val (.func (.func 35) [] []) rfl pv_move ?_
    refine wo_val (.agg (rAirport a)) rfl (pv_load (ld_ptr hI rfl rfl rfl ti46 rfl)) ?_
    refine of_call [(.agg (rAirport a))] rfl rfl rfl rfl ((cp_names_airport a) _) (fun v _ => wu_panM Try.func34 hI) fun r2 _ => ?_
    refine wo_val (.int .i64 (j : Int)) rfl pv_move ?_
    refine wo_mapUpdate (j := 0) (eK := (fun x : Str => (AV.str x))) (eV := (fun x : Int => (AV.int .i64 x))) (M := m) (ky := r2) (w := (j : Int)) hI rfl rfl rfl rfl rfl rfl ti70 ti9 keyE_str ?_
    refine wo_nil ?_
    refine wr_hp [(some (.mp g (mE (fun x : Str => (AV.str x)) (fun x : Int => (AV.int .i64 x)) (mput m r2 (j : Int))))), (some (.rows g1 2 [(rAirport a)]))] rfl ?_
    refine wr_inBlock ?_
    refine wr_region ?_
    refine wo_val (.int .i64 (IntKind.wrap .i64 ((j : Int) + 1))) rfl (pv_bin rfl rfl rfl) ?_
    refine wo_val (.int .i64 (IntKind.wrap .i64 ((j : Int) + 1))) rfl pv_move ?_
    refine wo_nil ?_
    refine wr_drop [(some (.mp g (mE (fun x : Str => (AV.str x)) (fun x : Int => (AV.int .i64 x)) (mput m r2 (j : Int))))), none] hI rfl (.keep (.drop .nil)) ?_
    refine wr_is [(1, (.func (.func 35) [] [])), (5, (.map (ix ids 0) g)), (11, (.sl 2 (List.map rAirport l))), (12, (.int .i64 (l.length : Int))), (13, (.int .i64 ((j + 1 : Nat) : Int)))] (.cons rfl (.cons rfl (.cons rfl (.cons rfl (.cons (inc_ok (lt_of_get ha) hlim) .nil))))) ?_
    refine wb_S ?_
    refine hW (mput m r2 (j : Int)) _ _ ?_
    exact ⟨rfl, rfl⟩
  · rintro m fr h ⟨rfl, rfl⟩
    refine wr_seq ?_
    refine wr_region ?_
    refine wo_val (.bool (decide ((l.length : Int) < (l.length : Int)))) rfl (pv_bin rfl rfl rfl) ?_
    refine wo_nil ?_
    refine wr_seq ?_
    refine wr_condF rfl (Int.lt_irrefl _) ?_
    refine wr_exit rfl ?_
    refine wr_seq ?_
    refine wr_region ?_
    refine wo_val (.map (ix ids 0) g) rfl pv_move ?_
    refine wo_val (.map (ix ids 0) g) rfl pv_assign ?_
    refine wo_nil ?_
    exact wr_retM (a := m) (g := g) Try.func34 hI rfl rfl rfl

theorem cp_names_class (c : Class) : CP Try.prog 37 [(.agg (rClass c))] (names_class c) (fun (x : Str) => (AV.str x)) := by
  refine cp_intro (n := 5) 1 Try.func37 rfl (by decide) rfl rfl fun h0 ids hI => ?_
  refine wr_in (wr_mod (names_class.eq_1 _) ?_)
  refine wr_seq ?_
  refine wr_region ?_
  refine wo_box (v := (.agg (rClass c))) (j := 0) hI rfl rfl rfl rfl rfl rfl rfl fun g => ?_
  refine wo_val (.str []) rfl pv_assign ?_
  refine wo_nil ?_
  refine wr_hp [(some (.rows g 4 [(rClass c)]))] rfl ?_
  refine wr_seq ?_
  refine wr_region ?_
  refine wo_val (.ptr (ix ids 0) g 0 0) rfl (pv_fa (fa_ptr (c := 0) (off := 0) (i := 0) ti43 rfl ti9 rfl)) ?_
  refine wo_val (.str c.Name) rfl (pv_load (ld_ptr hI rfl rfl rfl ti9 rfl)) ?_
  refine wo_val (.str c.Name) rfl pv_assign ?_
  refine wo_nil ?_
  exact wr_ret (a := c.Name) (vs := [(.str c.Name)]) Try.func37 hI rfl (.same _)

theorem cpm_names_index_Class_class (l : (List Class)) : CPM Try.prog 36 [(.sl 4 (List.map rClass l)), (.func (.func 37) [] [])] (names_index_Class_class l) (fun x : Str => (AV.str x)) (fun x : Int => (AV.int .i64 x)) := by
  refine cpm_intro (n := 36) 1 Try.func36 rfl (by decide) rfl rfl fun h0 ids hI => ?_
  refine wr_in (wr_mod (names_index_Class_class.eq_1 _) ?_)
  refine wr_seq ?_
  refine wr_region ?_
  refine wo_val .mnil rfl pv_assign ?_
  refine wo_nil ?_
  refine wr_seq ?_
  refine wr_region ?_
  refine wo_makeMap (j := 0) hI rfl rfl rfl rfl fun g => ?_
  refine wo_val (.map (ix ids 0) g) rfl pv_assign ?_
  refine wo_nil ?_
  refine wr_hp [(some (.mp g (mE (fun x : Str => (AV.str x)) (fun x : Int => (AV.int .i64 x)) []))), none] rfl ?_
  refine wr_seq ?_
  refine wr_seq ?_
  refine wr_region ?_
  refine wo_val (.sl 4 (List.map rClass l)) rfl pv_move ?_
  refine wo_val (.int .i64 (l.length : Int)) rfl (pv_len (len_sl ti28)) ?_
  refine wo_val (.int .i64 0) rfl pv_move ?_
  refine wo_nil ?_
  refine wr_block ?_
  refine wr_is [(1, (.func (.func 37) [] [])), (5, (.map (ix ids 0) g)), (11, (.sl 4 (List.map rClass l))), (12, (.int .i64 (l.length : Int))), (13, (.int .i64 0))] (.cons rfl (.cons rfl (.cons rfl (.cons rfl (.cons rfl .nil))))) ?_
  refine wf_eachS' l (fun j a => fun m => names_index_Class_class_b1 j a m) (((fun m => .ok m)) : _ → R (List (Str × Int)))
    (fun j => fun m => fun (fr : Nat → AV) (h : AHeap) => fr = frA [(1, (.func (.func 37) [] [])), (5, (.map (ix ids 0) g)), (11, (.sl 4 (List.map rClass l))), (12, (.int .i64 (l.length : Int))), (13, (.int .i64 (j : Int)))] ∧ h = hp h0 ids [(some (.mp g (mE (fun x : Str => (AV.str x)) (fun x : Int => (AV.int .i64 x)) m))), none]) [] ?_ ?_ ?_
  · exact ⟨rfl, rfl⟩
  · rintro j a ha W hW m fr h ⟨rfl, rfl⟩
    refine wr_mod (m' := names_index_Class_class_b1 j a m) rfl (wr_mod (names_index_Class_class_b1.eq_1 _ _ _) ?_)
    refine wr_seq ?_
    refine wr_region ?_
    refine wo_val (.bool (decide ((j : Int) < (l.length : Int)))) rfl (pv_bin rfl rfl rfl) ?_
    refine wo_nil ?_
    refine wr_seq ?_
    refine wr_lim (t := 11) (L := l) rfl fun hlim => ?_
    refine wr_condT rfl (Int.ofNat_lt.2 (lt_of_get ha)) ?_
    refine wr_skip ?_
    refine wr_seq ?_
    refine wr_block ?_
    refine wr_seq ?_
    refine wr_region ?_
    refine wo_val (.int .i64 (j : Int)) rfl pv_move ?_
    refine wo_val (.cp (rClass a) 0) rfl (pv_ixa (ixa_nat ti28 ti43 rfl ha)) ?_
    refine wo_val (.agg (rClass a)) rfl (pv_load (ld_cp ti43 rfl)) ?_
    refine wo_alloc (j := 1) hI rfl rfl rfl rfl ti43 rfl fun g1 => ?_
    refine wo_val (.int .i64 (j : Int)) rfl pv_assign ?_
    refine wo_store (st_ptr hI rfl rfl rfl rfl ti43 rfl rfl rfl rfl rfl) ?_
    refine wo_nil ?_
    refine wr_hp [(some (.mp g (mE (fun x : Str => (AV.str x)) (fun x : Int => (AV.int .i64 x)) m))), (some (.rows g1 4 [(rClass a)]))] rfl ?_
    refine wr_seq ?_
    refine wr_region ?_
    refine wo_val (.map (ix ids 0) g) rfl pv_move ?_
    refine wo_val (.func (.func 37) [] []) rfl pv_move ?_
    refine wo_val (.agg (rClass a)) rfl (pv_load (ld_ptr hI rfl rfl rfl ti43 rfl)) ?_
    refine of_call [(.agg (rClass a))] rfl rfl rfl rfl ((cp_names_class a) _) (fun v _ => wu_panM Try.func36 hI) fun r _ => ?_
    refine wo_val (.tup [(.int .i64 (Option.getD (mget m r) 0)), (.bool (Option.isSome (mget m r)))]) rfl (pv_look (look_map (eK := (fun x : Str => (AV.str x))) (eV := (fun x : Int => (AV.int .i64 x))) (zv := 0) (mapOf_at (hI.at rfl rfl)) ti70 ti9 ti3 keyE_str rfl).2) ?_
    refine wo_val (.tup [(.int .i64 (Option.getD (mget m r) 0)), (.bool (Option.isSome (mget m r)))]) rfl pv_move ?_
    refine wo_val (.int .i64 (Option.getD (mget m r) 0)) rfl (pv_ext rfl) ?_
    refine wo_val (.bool (Option.isSome (mget m r))) rfl (pv_ext rfl) ?_
    refine wo_val (.int .i64 (Option.getD (mget m r) 0)) rfl pv_assign ?_
    refine wo_val (.bool (Option.isSome (mget m r))) rfl pv_assign ?_
    refine wo_nil ?_
    refine wr_seq ?_
    refine wr_region ?_
    refine wo_val (.bool (Option.isSome (mget m r))) rfl pv_move ?_
    refine wo_val (.bool (!(Option.isSome (mget m r)))) rfl (pv_un rfl) ?_
    refine of_call [(.bool (!(Option.isSome (mget m r)))), (.int .i64 91)] rfl rfl rfl rfl ((cp_names_must (!(Option.isSome (mget m r))) 91) _) (fun v _ => wu_panM Try.func36 hI) fun _ _ => ?_
    refine wo_nil ?_
    refine wr_region ?_
    refine wo_val (.map (ix ids 0) g) rfl pv_move ?_
    refine wo_val (.func (.func 37) [] []) rfl pv_move ?_
    refine wo_val (.agg (rClass a)) rfl (pv_load (ld_ptr hI rfl rfl rfl ti43 rfl)) ?_
    refine of_call [(.agg (rClass a))] rfl rfl rfl rfl ((cp_names_class a) _) (fun v _ => wu_panM Try.func36 hI) fun r2 _ => ?_
    refine wo_val (.int .i64 (j : Int)) rfl pv_move ?_
    refine wo_mapUpdate (j := 0) (eK := (fun x : Str => (AV.str x))) (eV := (fun x : Int => (AV.int .i64 x))) (M := m) (ky := r2) (w := (j : Int)) hI rfl rfl rfl rfl rfl rfl ti70 ti9 keyE_str ?_
    refine wo_nil ?_
    refine wr_hp [(some (.mp g (mE (fun x : Str => (AV.str x)) (fun x : Int => (AV.int .i64 x)) (mput m r2 (j : Int))))), (some (.rows g1 4 [(rClass a)]))] rfl ?_
    refine wr_inBlock ?_
    refine wr_region ?_
    refine wo_val (.int .i64 (IntKind.wrap .i64 ((j : Int) + 1))) rfl (pv_bin rfl rfl rfl) ?_
    refine wo_val (.int .i64 (IntKind.wrap .i64 ((j : Int) + 1))) rfl pv_move ?_
    refine wo_nil ?_
    refine wr_drop [(some (.mp g (mE (fun x : Str => (AV.str x)) (fun x : Int => (AV.int .i64 x)) (mput m r2 (j : Int))))), none] hI rfl (.keep (.drop .nil)) ?_
    refine wr_is [(1, (.func (.func 37) [] [])), (5, (.map (ix ids 0) g)), (11, (.sl 4 (List.map rClass l))), (12, (.int .i64 (l.length : Int))), (13, (.int .i64 ((j + 1 : Nat) : Int)))] (.cons rfl (.cons rfl (.cons rfl (.cons rfl (.cons (inc_ok (lt_of_get ha) hlim) .nil))))) ?_
    refine wb_S ?_
    refine hW (mput m r2 (j : Int)) _ _ ?_
    exact ⟨rfl, rfl⟩
  · rintro m fr h ⟨rfl, rfl⟩
    refine wr_seq ?_
    refine wr_region ?_
    refine wo_val (.bool (decide ((l.length : Int) < (l.length : Int)))) rfl (pv_bin rfl rfl rfl) ?_
    refine wo_nil ?_
    refine wr_seq ?_
    refine wr_condF rfl (Int.lt_irrefl _) ?_
    refine wr_exit rfl ?_
    refine wr_seq ?_
    refine wr_region ?_
    refine wo_val (.map (ix ids 0) g) rfl pv_move ?_
    refine wo_val (.map (ix ids 0) g) rfl pv_assign ?_
    refine wo_nil ?_
    exact wr_retM (a := m) (g := g) Try.func36 hI rfl rfl rfl

theorem cp_names_Resolve_c6 (m : Mode) : CP Try.prog 39 [(.agg (rMode m))] (names_Resolve_c6 m) (fun (x : Str) => (AV.str x)) := by
  refine cp_intro (n := 5) 1 Try.func39 rfl (by decide) rfl rfl fun h0 ids hI => ?_
  refine wr_in (wr_mod (names_Resolve_c6.eq_1 _) ?_)
  refine wr_seq ?_
  refine wr_region ?_
  refine wo_box (v := (.agg (rMode m))) (j := 0) hI rfl rfl rfl rfl rfl rfl rfl fun g => ?_
  refine wo_val (.str []) rfl pv_assign ?_
  refine wo_nil ?_
  refine wr_hp [(some (.rows g 2 [(rMode m)]))] rfl ?_
  refine wr_seq ?_
  refine wr_region ?_
  refine wo_val (.ptr (ix ids 0) g 0 0) rfl (pv_fa (fa_ptr (c := 0) (off := 0) (i := 0) ti66 rfl ti9 rfl)) ?_
  refine wo_val (.str m.Name) rfl (pv_load (ld_ptr hI rfl rfl rfl ti9 rfl)) ?_
  refine wo_val (.str m.Name) rfl pv_assign ?_
  refine wo_nil ?_
  exact wr_ret (a := m.Name) (vs := [(.str m.Name)]) Try.func39 hI rfl (.same _)

theorem cpm_names_index_Mode_c6 (l : (List Mode)) : CPM Try.prog 38 [(.sl 2 (List.map rMode l)), (.func (.func 39) [] [])] (names_index_Mode_c6 l) (fun x : Str => (AV.str x)) (fun x : Int => (AV.int .i64 x)) := by
  refine cpm_intro (n := 36) 1 Try.func38 rfl (by decide) rfl rfl fun h0 ids hI => ?_
  refine wr_in (wr_mod (names_index_Mode_c6.eq_1 _) ?_)
  refine wr_seq ?_
  refine wr_region ?_
  refine wo_val .mnil rfl pv_assign ?_
  refine wo_nil ?_
  refine wr_seq ?_
  refine wr_region ?_
  refine wo_makeMap (j := 0) hI rfl rfl rfl rfl fun g => ?_
  refine wo_val (.map (ix ids 0) g) rfl pv_assign ?_
  refine wo_nil ?_
  refine wr_hp [(some (.mp g (mE (fun x : Str => (AV.str x)) (fun x : Int => (AV.int .i64 x)) []))), none] rfl ?_
  refine wr_seq ?_
  refine wr_seq ?_
  refine wr_region ?_
  refine wo_val (.sl 2 (List.map rMode l)) rfl pv_move ?_
  refine wo_val (.int .i64 (l.length : Int)) rfl (pv_len (len_sl ti44)) ?_
  refine wo_val (.int .i64 0) rfl pv_move ?_
  refine wo_nil ?_
  refine wr_block ?_
  refine wr_is [(1, (.func (.func 39) [] [])), (5, (.map (ix ids 0) g)), (11, (.sl 2 (List.map rMode l))), (12, (.int .i64 (l.length : Int))), (13, (.int .i64 0))] (.cons rfl (.cons rfl (.cons rfl (.cons rfl (.cons rfl .nil))))) ?_
  refine wf_eachS' l (fun j a => fun m => names_index_Mode_c6_b1 j a m) (((fun m => .ok m)) : _ → R (List (Str × Int)))
    (fun j => fun m => fun (fr : Nat → AV) (h : AHeap) => fr = frA [(1, (.func (.func 39) [] [])), (5, (.map (ix ids 0) g)), (11, (.sl 2 (List.map rMode l))), (12, (.int .i64 (l.length : Int))), (13, (.int .i64 (j : Int)))] ∧ h = hp h0 ids [(some (.mp g (mE (fun x : Str => (AV.str x)) (fun x : Int => (AV.int .i64 x)) m))), none]) [] ?_ ?_ ?_
  · exact ⟨rfl, rfl⟩
  · rintro j a ha W hW m fr h ⟨rfl, rfl⟩
    refine wr_mod (m' := names_index_Mode_c6_b1 j a m) rfl (wr_mod (names_index_Mode_c6_b1.eq_1 _ _ _) ?_)
    refine wr_seq ?_
    refine wr_region ?_
    refine wo_val (.bool (decide ((j : Int) < (l.length : Int)))) rfl (pv_bin rfl rfl rfl) ?_
    refine wo_nil ?_
    refine wr_seq ?_
    refine wr_lim (t := 11) (L := l) rfl fun hlim => ?_
    refine wr_condT rfl (Int.ofNat_lt.2 (lt_of_get ha)) ?_
    refine wr_skip ?_
    refine wr_seq ?_
    refine wr_block ?_
    refine wr_seq ?_
    refine wr_region ?_
    refine wo_val (.int .i64 (j : Int)) rfl pv_move ?_
    refine wo_val (.cp (rMode a) 0) rfl (pv_ixa (ixa_nat ti44 ti66 rfl ha)) ?_
    refine wo_val (.agg (rMode a)) rfl (pv_load (ld_cp ti66 rfl)) ?_
    refine wo_alloc (j := 1) hI rfl rfl rfl rfl ti66 rfl fun g1 => ?_
    refine wo_val (.int .i64 (j : Int)) rfl pv_assign ?_
    refine wo_store (st_ptr hI rfl rfl rfl rfl ti66 rfl rfl rfl rfl rfl) ?_
    refine wo_nil ?_
    refine wr_hp [(some (.mp g (mE (fun x : Str => (AV.str x)) (fun x : Int => (AV.int .i64 x)) m))), (some (.rows g1 2 [(rMode a)]))] rfl ?_
    refine wr_seq ?_
    refine wr_region ?_
    refine wo_val (.map (ix ids 0) g) rfl pv_move ?_
    refine wo_val (.func (.func 39) [] []) rfl pv_move ?_
    refine wo_val (.agg (rMode a)) rfl (pv_load (ld_ptr hI rfl rfl rfl ti66 rfl)) ?_
    refine of_call [(.agg (rMode a))] rfl rfl rfl rfl ((cp_names_Resolve_c6 a) _) (fun v _ => wu_panM Try.func38 hI) fun r _ => ?_
    refine wo_val (.tup [(.int .i64 (Option.getD (mget m r) 0)), (.bool (Option.isSome (mget m r)))]) rfl (pv_look (look_map (eK := (fun x : Str => (AV.str x))) (eV := (fun x : Int => (AV.int .i64 x))) (zv := 0) (mapOf_at (hI.at rfl rfl)) ti70 ti9 ti3 keyE_str rfl).2) ?_
    refine wo_val (.tup [(.int .i64 (Option.getD (mget m r) 0)), (.bool (Option.isSome (mget m r)))]) rfl pv_move ?_
    refine wo_val (.int .i64 (Option.getD (mget m r) 0)) rfl (pv_ext rfl) ?_
    refine wo_val (.bool (Option.isSome (mget m r))) rfl (pv_ext rfl) ?_
    refine wo_val (.int .i64 (Option.getD (mget m r) 0)) rfl pv_assign ?_
    refine wo_val (.bool (Option.isSome (mget m r))) rfl pv_assign ?_
    refine wo_nil ?_
    refine wr_seq ?_
    refine wr_region ?_
    refine wo_val (.bool (Option.isSome (mget m r))) rfl pv_move ?_
    refine wo_val (.bool (!(Option.isSome (mget m r)))) rfl (pv_un rfl) ?_
    refine of_call [(.bool (!(Option.isSome (mget m r)))), (.int .i64 91)] rfl rfl rfl rfl ((cp_names_must (!(Option.isSome (mget m r))) 91) _) (fun v _ => wu_panM Try.func38 hI) fun _ _ => ?_
    refine wo_nil ?_
    refine wr_region ?_
    refine wo_val (.map (ix ids 0) g) rfl pv_move ?_
    refine wo_val (.func (.func 39) [] []) rfl pv_move ?_
    refine wo_val (.agg (rMode a)) rfl (pv_load (ld_ptr hI rfl rfl rfl ti66 rfl)) ?_
    refine of_call [(.agg (rMode a))] rfl rfl rfl rfl ((cp_names_Resolve_c6 a) _) (fun v _ => wu_panM Try.func38 hI) fun r2 _ => ?_
    refine wo_val (.int .i64 (j : Int)) rfl pv_move ?_
    refine wo_mapUpdate (j := 0) (eK := (fun x : Str => (AV.str x))) (eV := (fun x : Int => (AV.int .i64 x))) (M := m) (ky := r2) (w := (j : Int)) hI rfl rfl rfl rfl rfl rfl ti70 ti9 keyE_str ?_
    refine wo_nil ?_
    refine wr_hp [(some (.mp g (mE (fun x : Str => (AV.str x)) (fun x : Int => (AV.int .i64 x)) (mput m r2 (j : Int))))), (some (.rows g1 2 [(rMode a)]))] rfl ?_
    refine wr_inBlock ?_
    refine wr_region ?_
    refine wo_val (.int .i64 (IntKind.wrap .i64 ((j : Int) + 1))) rfl (pv_bin rfl rfl rfl) ?_
    refine wo_val (.int .i64 (IntKind.wrap .i64 ((j : Int) + 1))) rfl pv_move ?_
    refine wo_nil ?_
    refine wr_drop [(some (.mp g (mE (fun x : Str => (AV.str x)) (fun x : Int => (AV.int .i64 x)) (mput m r2 (j : Int))))), none] hI rfl (.keep (.drop .nil)) ?_
    refine wr_is [(1, (.func (.func 39) [] [])), (5, (.map (ix ids 0) g)), (11, (.sl 2 (List.map rMode l))), (12, (.int .i64 (l.length : Int))), (13, (.int .i64 ((j + 1 : Nat) : Int)))] (.cons rfl (.cons rfl (.cons rfl (.cons rfl (.cons (inc_ok (lt_of_get ha) hlim) .nil))))) ?_
    refine wb_S ?_
    refine hW (mput m r2 (j : Int)) _ _ ?_
    exact ⟨rfl, rfl⟩
  · rintro m fr h ⟨rfl, rfl⟩
    refine wr_seq ?_
    refine wr_region ?_
    refine wo_val (.bool (decide ((l.length : Int) < (l.length : Int)))) rfl (pv_bin rfl rfl rfl) ?_
    refine wo_nil ?_
    refine wr_seq ?_
    refine wr_condF rfl (Int.lt_irrefl _) ?_
    refine wr_exit rfl ?_
    refine wr_seq ?_
    refine wr_region ?_
    refine wo_val (.map (ix ids 0) g) rfl pv_move ?_
    refine wo_val (.map (ix ids 0) g) rfl pv_assign ?_
    refine wo_nil ?_
    exact wr_retM (a := m) (g := g) Try.func38 hI rfl rfl rfl

theorem cpo_slices_Clone_Sector (s : List Sector) : CPO Try.prog 40 [(.sl 5 (List.map rSector s))] (slices_Clone_Sector s) 5 rSector := by
  refine cpo_intro (n := 8) 0 Try.func40 rfl (by decide) rfl rfl fun h0 ids hI => ?_
  refine wr_eq (slices_Clone_Sector.eq_1 _) ?_
  refine wr_seq ?_
  refine wr_region ?_
  refine wo_val .emp rfl pv_assign ?_
  refine wo_nil ?_
  refine wr_seq ?_
  refine wr_seq ?_
  refine wr_region ?_
  refine wo_val (.sl 5 (List.map rSector s)) rfl pv_move ?_
  refine wo_nilc (L := s) rfl ti23 rfl fun c hc => ?_
  refine wo_nil ?_
  by_cases hl : s.length * 80 ≤ LIM
  case neg => rw [if_neg hl]; exact wr_bad
  rw [if_pos hl]
  refine wr_cond c rfl ?_
  cases c with
  | true =>
    have hs := hc rfl
    subst hs
    refine wr_seq ?_
    refine wr_region ?_
    refine wo_val .emp rfl pv_assign ?_
    refine wo_nil ?_
    exact wr_retO (a := []) (v := .emp) (g := 0) Try.func40 hI rfl rfl .nil rfl
  | false =>
    refine wr_skip ?_
    refine wr_seq ?_
    refine wr_region ?_
    refine wo_bs0 rfl ti23 ti53 ?_
    refine wo_val (.sl 5 (List.map rSector s)) rfl pv_move ?_
    refine wo_append (e := rSector) (L := []) (L2 := s) (v := .emp) (g := 0) (st := 5) (j := 0) hI rfl rfl rfl rfl .nil rfl (src_sl rfl) ti23 ti23 rfl ti53 rfl rfl rfl (by simpa using hl) fun v g H => ?_
    refine wo_val v rfl pv_assign ?_
    refine wo_nil ?_
    exact wr_retO (a := s) (v := v) (g := g) Try.func40 hI rfl rfl H rfl
theorem cp_slices_Clone_Sector (s : List Sector) : CP Try.prog 40 [(.sl 5 (List.map rSector s))] (slices_Clone_Sector s) (fun x => .sl 5 (List.map rSector x)) := (cpo_slices_Clone_Sector s).cp (fun x => ok_Sector x)

theorem cpo_slices_Clone_Config (s : List Config) : CPO Try.prog 41 [(.sl 3 (List.map rConfig s))] (slices_Clone_Config s) 3 rConfig := by
  refine cpo_intro (n := 8) 0 Try.func41 rfl (by decide) rfl rfl fun h0 ids hI => ?_
  refine wr_eq (slices_Clone_Config.eq_1 _) ?_
  refine wr_seq ?_
  refine wr_region ?_
  refine wo_val .emp rfl pv_assign ?_
  refine wo_nil ?_
  refine wr_seq ?_
  refine wr_seq ?_
  refine wr_region ?_
  refine wo_val (.sl 3 (List.map rConfig s)) rfl pv_move ?_
  refine wo_nilc (L := s) rfl ti24 rfl fun c hc => ?_
  refine wo_nil ?_
  by_cases hl : s.length * 64 ≤ LIM
  case neg => rw [if_neg hl]; exact wr_bad
  rw [if_pos hl]
  refine wr_cond c rfl ?_
  cases c with
  | true =>
    have hs := hc rfl
    subst hs
    refine wr_seq ?_
    refine wr_region ?_
    refine wo_val .emp rfl pv_assign ?_
    refine wo_nil ?_
    exact wr_retO (a := []) (v := .emp) (g := 0) Try.func41 hI rfl rfl .nil rfl
  | false =>
    refine wr_skip ?_
    refine wr_seq ?_
    refine wr_region ?_
    refine wo_bs0 rfl ti24 ti55 ?_
    refine wo_val (.sl 3 (List.map rConfig s)) rfl pv_move ?_
    refine wo_append (e := rConfig) (L := []) (L2 := s) (v := .emp) (g := 0) (st := 3) (j := 0) hI rfl rfl rfl rfl .nil rfl (src_sl rfl) ti24 ti24 rfl ti55 rfl rfl rfl (by simpa using hl) fun v g H => ?_
    refine wo_val v rfl pv_assign ?_
    refine wo_nil ?_
    exact wr_retO (a := s) (v := v) (g := g) Try.func41 hI rfl rfl H rfl
theorem cp_slices_Clone_Config (s : List Config) : CP Try.prog 41 [(.sl 3 (List.map rConfig s))] (slices_Clone_Config s) (fun x => .sl 3 (List.map rConfig x)) := (cpo_slices_Clone_Config s).cp (fun x => ok_Config x)

theorem cpo_slices_Clone_Segment (s : List Segment) : CPO Try.prog 42 [(.sl 5 (List.map rSegment s))] (slices_Clone_Segment s) 5 rSegment := by
  refine cpo_intro (n := 8) 0 Try.func42 rfl (by decide) rfl rfl fun h0 ids hI => ?_
  refine wr_eq (slices_Clone_Segment.eq_1 _) ?_
  refine wr_seq ?_
  refine wr_region ?_
  refine wo_val .emp rfl pv_assign ?_
  refine wo_nil ?_
  refine wr_seq ?_
  refine wr_seq ?_
  refine wr_region ?_
  refine wo_val (.sl 5 (List.map rSegment s)) rfl pv_move ?_
  refine wo_nilc (L := s) rfl ti25 rfl fun c hc => ?_
  refine wo_nil ?_
  by_cases hl : s.length * 72 ≤ LIM
  case neg => rw [if_neg hl]; exact wr_bad
  rw [if_pos hl]
  refine wr_cond c rfl ?_
  cases c with
  | true =>
    have hs := hc rfl
    subst hs
    refine wr_seq ?_
    refine wr_region ?_
    refine wo_val .emp rfl pv_assign ?_
    refine wo_nil ?_
    exact wr_retO (a := []) (v := .emp) (g := 0) Try.func42 hI rfl rfl .nil rfl
  | false =>
    refine wr_skip ?_
    refine wr_seq ?_
    refine wr_region ?_
    refine wo_bs0 rfl ti25 ti57 ?_
    refine wo_val (.sl 5 (List.map rSegment s)) rfl pv_move ?_
    refine wo_append (e := rSegment) (L := []) (L2 := s) (v := .emp) (g := 0) (st := 5) (j := 0) hI rfl rfl rfl rfl .nil rfl (src_sl rfl) ti25 ti25 rfl ti57 rfl rfl rfl (by simpa using hl) fun v g H => ?_
    refine wo_val v rfl pv_assign ?_
    refine wo_nil ?_
    exact wr_retO (a := s) (v := v) (g := g) Try.func42 hI rfl rfl H rfl
theorem cp_slices_Clone_Segment (s : List Segment) : CP Try.prog 42 [(.sl 5 (List.map rSegment s))] (slices_Clone_Segment s) (fun x => .sl 5 (List.map rSegment x)) := (cpo_slices_Clone_Segment s).cp (fun x => ok_Segment x)

theorem cpo_slices_Clone_Route (s : List Route) : CPO Try.prog 43 [(.sl 7 (List.map rRoute s))] (slices_Clone_Route s) 7 rRoute := by
  refine cpo_intro (n := 8) 0 Try.func43 rfl (by decide) rfl rfl fun h0 ids hI => ?_
  refine wr_eq (slices_Clone_Route.eq_1 _) ?_
  refine wr_seq ?_
  refine wr_region ?_
  refine wo_val .emp rfl pv_assign ?_
  refine wo_nil ?_
  refine wr_seq ?_
  refine wr_seq ?_
  refine wr_region ?_
  refine wo_val (.sl 7 (List.map rRoute s)) rfl pv_move ?_
  refine wo_nilc (L := s) rfl ti26 rfl fun c hc => ?_
  refine wo_nil ?_
  by_cases hl : s.length * 112 ≤ LIM
  case neg => rw [if_neg hl]; exact wr_bad
  rw [if_pos hl]
  refine wr_cond c rfl ?_
  cases c with
  | true =>
    have hs := hc rfl
    subst hs
    refine wr_seq ?_
    refine wr_region ?_
    refine wo_val .emp rfl pv_assign ?_
    refine wo_nil ?_
    exact wr_retO (a := []) (v := .emp) (g := 0) Try.func43 hI rfl rfl .nil rfl
  | false =>
    refine wr_skip ?_
    refine wr_seq ?_
    refine wr_region ?_
    refine wo_bs0 rfl ti26 ti59 ?_
    refine wo_val (.sl 7 (List.map rRoute s)) rfl pv_move ?_
    refine wo_append (e := rRoute) (L := []) (L2 := s) (v := .emp) (g := 0) (st := 7) (j := 0) hI rfl rfl rfl rfl .nil rfl (src_sl rfl) ti26 ti26 rfl ti59 rfl rfl rfl (by simpa using hl) fun v g H => ?_
    refine wo_val v rfl pv_assign ?_
    refine wo_nil ?_
    exact wr_retO (a := s) (v := v) (g := g) Try.func43 hI rfl rfl H rfl
theorem cp_slices_Clone_Route (s : List Route) : CP Try.prog 43 [(.sl 7 (List.map rRoute s))] (slices_Clone_Route s) (fun x => .sl 7 (List.map rRoute x)) := (cpo_slices_Clone_Route s).cp (fun x => ok_Route x)

theorem cpo_slices_Clone_Rule (s : List Rule) : CPO Try.prog 44 [(.sl 8 (List.map rRule s))] (slices_Clone_Rule s) 8 rRule := by
  refine cpo_intro (n := 8) 0 Try.func44 rfl (by decide) rfl rfl fun h0 ids hI => ?_
  refine wr_eq (slices_Clone_Rule.eq_1 _) ?_
  refine wr_seq ?_
  refine wr_region ?_
  refine wo_val .emp rfl pv_assign ?_
  refine wo_nil ?_
  refine wr_seq ?_
  refine wr_seq ?_
  refine wr_region ?_
  refine wo_val (.sl 8 (List.map rRule s)) rfl pv_move ?_
  refine wo_nilc (L := s) rfl ti29 rfl fun c hc => ?_
  refine wo_nil ?_
  by_cases hl : s.length * 80 ≤ LIM
  case neg => rw [if_neg hl]; exact wr_bad
  rw [if_pos hl]
  refine wr_cond c rfl ?_
  cases c with
  | true =>
    have hs := hc rfl
    subst hs
    refine wr_seq ?_
    refine wr_region ?_
    refine wo_val .emp rfl pv_assign ?_
    refine wo_nil ?_
    exact wr_retO (a := []) (v := .emp) (g := 0) Try.func44 hI rfl rfl .nil rfl
  | false =>
    refine wr_skip ?_
    refine wr_seq ?_
    refine wr_region ?_
    refine wo_bs0 rfl ti29 ti63 ?_
    refine wo_val (.sl 8 (List.map rRule s)) rfl pv_move ?_
    refine wo_append (e := rRule) (L := []) (L2 := s) (v := .emp) (g := 0) (st := 8) (j := 0) hI rfl rfl rfl rfl .nil rfl (src_sl rfl) ti29 ti29 rfl ti63 rfl rfl rfl (by simpa using hl) fun v g H => ?_
    refine wo_val v rfl pv_assign ?_
    refine wo_nil ?_
    exact wr_retO (a := s) (v := v) (g := g) Try.func44 hI rfl rfl H rfl
theorem cp_slices_Clone_Rule (s : List Rule) : CP Try.prog 44 [(.sl 8 (List.map rRule s))] (slices_Clone_Rule s) (fun x => .sl 8 (List.map rRule x)) := (cpo_slices_Clone_Rule s).cp (fun x => ok_Rule x)

theorem cp_names_numbers_of (n : (List (Str × Int))) (name : Str) (o g : Nat) (h0 : AHeap) (vHm : h0 o = some (.mp g (mE (fun x : Str => (AV.str x)) (fun x : Int => (AV.int .i64 x)) n))) : names_numbers_of n name ≠ .bad → ACalls Try.prog 46 [(.map o g), (.str name)] h0 (AnsR (fun (x : Int) => (AV.int .i64 x)) h0 (names_numbers_of n name)) := by
  refine cph_intro (n := 16) 0 Try.func46 rfl (by decide) rfl rfl fun ids hI => ?_
  refine wr_in (wr_mod (names_numbers_of.eq_1 _ _) ?_)
  refine wr_seq ?_
  refine wr_region ?_
  refine wo_val (.int .i64 0) rfl pv_assign ?_
  refine wo_nil ?_
  refine wr_seq ?_
  refine wr_region ?_
  refine wo_val (.map o g) rfl pv_move ?_
  refine wo_val (.str name) rfl pv_move ?_
  refine wo_val (.tup [(.int .i64 (Option.getD (mget n name) 0)), (.bool (Option.isSome (mget n name)))]) rfl (pv_look (look_map (eK := (fun x : Str => (AV.str x))) (eV := (fun x : Int => (AV.int .i64 x))) (zv := 0) (mapOf_at (hI.for' vHm)) ti70 ti9 ti3 keyE_str rfl).2) ?_
  refine wo_val (.tup [(.int .i64 (Option.getD (mget n name) 0)), (.bool (Option.isSome (mget n name)))]) rfl pv_move ?_
  refine wo_val (.int .i64 (Option.getD (mget n name) 0)) rfl (pv_ext rfl) ?_
  refine wo_val (.bool (Option.isSome (mget n name))) rfl (pv_ext rfl) ?_
  refine wo_val (.int .i64 (Option.getD (mget n name) 0)) rfl pv_assign ?_
  refine wo_val (.bool (Option.isSome (mget n name))) rfl pv_assign ?_
  refine wo_nil ?_
  refine wr_seq ?_
  refine wr_region ?_
  refine wo_val (.bool (Option.isSome (mget n name))) rfl pv_move ?_
  refine of_call [(.bool (Option.isSome (mget n name))), (.int .i64 90)] rfl rfl rfl rfl ((cp_names_must (Option.isSome (mget n name)) 90) _) (fun v _ => wu_pan Try.func46 hI) fun _ _ => ?_
  refine wo_nil ?_
  refine wr_seq ?_
  refine wr_region ?_
  refine wo_val (.int .i64 (Option.getD (mget n name) 0)) rfl pv_move ?_
  refine wo_val (.int .i64 (Option.getD (mget n name) 0)) rfl pv_assign ?_
  refine wo_nil ?_
  exact wr_ret (a := (Option.getD (mget n name) 0)) (vs := [(.int .i64 (Option.getD (mget n name) 0))]) Try.func46 hI rfl (.same _)

theorem cp_names_numbers_all (n : (List (Str × Int))) (l : (List Str)) (o g : Nat) (h0 : AHeap) (vHm : h0 o = some (.mp g (mE (fun x : Str => (AV.str x)) (fun x : Int => (AV.int .i64 x)) n))) : names_numbers_all n l ≠ .bad → ACalls Try.prog 45 [(.map o g), (.sl 1 (List.map rS l))] h0 (AnsR (fun (x : (List Int)) => (AV.sl 1 (List.map (rI .i64) x))) h0 (names_numbers_all n l)) := by
  refine cph_intro (n := 21) 1 Try.func45 rfl (by decide) rfl rfl fun ids hI => ?_
  refine wr_in (wr_mod (names_numbers_all.eq_1 _ _) ?_)
  refine wr_seq ?_
  refine wr_region ?_
  refine wo_val .emp rfl pv_assign ?_
  refine wo_nil ?_
  refine wr_seq ?_
  refine wr_seq ?_
  refine wr_region ?_
  refine wo_val (.sl 1 (List.map rS l)) rfl pv_move ?_
  refine wo_val (.int .i64 (l.length : Int)) rfl (pv_len (len_sl ti38)) ?_
  refine wo_val (.int .i64 0) rfl pv_move ?_
  refine wo_nil ?_
  refine wr_block ?_
  refine wr_is [(0, (.map o g)), (4, .emp), (7, (.sl 1 (List.map rS l))), (8, (.int .i64 (l.length : Int))), (9, (.int .i64 0))] (.cons rfl (.cons rfl (.cons rfl (.cons rfl (.cons rfl .nil))))) ?_
  refine wf_eachS' l (fun _ a => fun x1 => names_numbers_all_b1 n a x1) (((fun x1 => .ok x1)) : _ → R (List Int))
    (fun j => fun x1 => fun (fr : Nat → AV) (h : AHeap) => ∃ (v : AV), ∃ (g1 : Nat), OwnV v (ix ids 0) g1 x1.length ∧ fr = frA [(0, (.map o g)), (4, v), (7, (.sl 1 (List.map rS l))), (8, (.int .i64 (l.length : Int))), (9, (.int .i64 (j : Int)))] ∧ h = hp h0 ids [(ownO v g1 1 (List.map (rI .i64) x1))]) [] ?_ ?_ ?_
  · exact ⟨.emp, 0, .nil, rfl, rfl⟩
  · rintro j a ha W hW x1 fr h ⟨v, g1, vH, rfl, rfl⟩
    refine wr_mod (m' := names_numbers_all_b1 n a x1) rfl (wr_mod (names_numbers_all_b1.eq_1 _ _ _) ?_)
    refine wr_seq ?_
    refine wr_region ?_
    refine wo_val (.bool (decide ((j : Int) < (l.length : Int)))) rfl (pv_bin rfl rfl rfl) ?_
    refine wo_nil ?_
    refine wr_seq ?_
    refine wr_lim (t := 7) (L := l) rfl fun hlim => ?_
    refine wr_condT rfl (Int.ofNat_lt.2 (lt_of_get ha)) ?_
    refine wr_skip ?_
    refine wr_seq ?_
    refine wr_block ?_
    refine wr_seq ?_
    refine wr_region ?_
    refine wo_val (.cp [(.str a)] 0) rfl (pv_ixa (ixa_nat ti38 ti9 rfl ha)) ?_
    refine wo_val (.str a) rfl (pv_load (ld_cp ti9 rfl)) ?_
    refine wo_val (.str a) rfl pv_assign ?_
    refine wo_nil ?_
    refine wr_region ?_
    refine wo_val v rfl pv_move ?_
    refine wo_val (.map o g) rfl pv_move ?_
    refine wo_val (.str a) rfl pv_move ?_
    refine of_call [(.map o g), (.str a)] rfl rfl rfl rfl ((cp_names_numbers_of n a o g) _ (hI.for' vHm)) (fun v _ => wu_pan Try.func45 hI) fun r _ => ?_
    refine wo_bsC (e := (rI .i64)) (L := [r]) (st := 1) (rows := [[(.int .i64 r)]]) rfl ti51 ti3 rfl rfl rfl rfl rfl (.cons (RowSim.refl _) .nil) (fun x => ok_I x) rfl rfl ?_
    refine of_need fun hl => ?_
    refine wo_append (e := (rI .i64)) (L := x1) (L2 := [r]) (v := v) (g := g1) (st := 1) (j := 0) hI rfl rfl rfl rfl vH rfl (src_sl rfl) ti51 ti51 rfl ti3 rfl rfl rfl hl fun v1 g2 vH1 => ?_
    refine wo_val v1 rfl pv_assign ?_
    refine wo_nil ?_
    refine wr_hp [(ownO v1 g2 1 (List.map (rI .i64) (x1 ++ [r])))] rfl ?_
    refine wr_inBlock ?_
    refine wr_region ?_
    refine wo_val (.int .i64 (IntKind.wrap .i64 ((j : Int) + 1))) rfl (pv_bin rfl rfl rfl) ?_
    refine wo_val (.int .i64 (IntKind.wrap .i64 ((j : Int) + 1))) rfl pv_move ?_
    refine wo_nil ?_
    refine wr_is [(0, (.map o g)), (4, v1), (7, (.sl 1 (List.map rS l))), (8, (.int .i64 (l.length : Int))), (9, (.int .i64 ((j + 1 : Nat) : Int)))] (.cons rfl (.cons rfl (.cons rfl (.cons rfl (.cons (inc_ok (lt_of_get ha) hlim) .nil))))) ?_
    refine wb_S ?_
    refine hW (x1 ++ [r]) _ _ ?_
    exact ⟨v1, g2, vH1, rfl, rfl⟩
  · rintro x1 fr h ⟨v, g1, vH, rfl, rfl⟩
    refine wr_seq ?_
    refine wr_region ?_
    refine wo_val (.bool (decide ((l.length : Int) < (l.length : Int)))) rfl (pv_bin rfl rfl rfl) ?_
    refine wo_nil ?_
    refine wr_seq ?_
    refine wr_condF rfl (Int.lt_irrefl _) ?_
    refine wr_exit rfl ?_
    refine wr_seq ?_
    refine wr_region ?_
    refine wo_val v rfl pv_move ?_
    refine wo_val v rfl pv_assign ?_
    refine wo_nil ?_
    exact wr_ret (a := x1) (vs := [v]) Try.func45 hI rfl (own_fz vH (hI.at rfl rfl) (hI.out rfl) (fun x => ok_I x))
end Go.Am

/- The models hold of the program. Written by dc.py. -/
import Derived.Test.YtjpafocobkhciaaNmT
import Derived.Test.YtjpafocobkhciaaNmM
namespace Go.Am
open Go Go.Proofs
set_option maxRecDepth 100000
set_option linter.unusedSimpArgs false
set_option linter.unusedVariables false
theorem cp_names_volume (v : Volume) : CP Try.prog 25 [(.agg (rVolume v))] (names_volume v) (fun (x : Str) => (AV.str x)) := by
  refine cp_intro (n := 5) 1 Try.func25 rfl (by decide) rfl rfl fun h0 ids hI => ?_
  refine wr_in (wr_mod (names_volume.eq_1 _) ?_)
  refine wr_seq ?_
  refine wr_region ?_
  refine wo_box (v := (.agg (rVolume v))) (j := 0) hI rfl rfl rfl rfl rfl rfl rfl fun g => ?_
  refine wo_val (.str []) rfl pv_assign ?_
  refine wo_nil ?_
  refine wr_hp [(some (.rows g 2 [(rVolume v)]))] rfl ?_
  refine wr_seq ?_
  refine wr_region ?_
  refine wo_val (.ptr (ix ids 0) g 0 0) rfl (pv_fa (fa_ptr (c := 0) (off := 0) (i := 0) ti41 rfl ti9 rfl)) ?_
  refine wo_val (.str v.Name) rfl (pv_load (ld_ptr hI rfl rfl rfl ti9 rfl)) ?_
  refine wo_val (.str v.Name) rfl pv_assign ?_
  refine wo_nil ?_
  exact wr_ret (a := v.Name) (vs := [(.str v.Name)]) Try.func25 hI rfl (.same _)

theorem cp_names_must (ok : Bool) (e : Int) : CP Try.prog 61 [(.bool ok), (.int .i64 e)] (names_must ok e) (fun (_ : Unit) => AV.tup []) := by
  refine cp_intro (n := 8) 0 Try.func61 rfl (by decide) rfl rfl fun h0 ids hI => ?_
  refine wr_in (wr_mod (names_must.eq_1 _ _) ?_)
  refine wr_seq ?_
  refine wr_region ?_
  refine wo_val (.bool ok) rfl pv_move ?_
  refine wo_val (.bool (!ok)) rfl (pv_un rfl) ?_
  refine wo_nil ?_
  refine wf_itebn rfl (fun hc => ?_) (fun hc => ?_)
  · refine wr_skip ?_
    exact wr_end (a := ()) (vs := []) Try.func61 hI rfl (.tupL .nil)
  · refine wr_region ?_
    refine wo_val (.int .i64 e) rfl pv_move ?_
    refine wo_val (.iface 34 (.int .i64 e)) rfl (pv_iface ti34 (by decide)) ?_
    exact wo_panic (v := ⟨34, .int .i64 e⟩) rfl rfl (wu_pan Try.func61 hI)

theorem cpm_names_index_Volume_volume (l : (List Volume)) : CPM Try.prog 24 [(.sl 2 (List.map rVolume l)), (.func (.func 25) [] [])] (names_index_Volume_volume l) (fun x : Str => (AV.str x)) (fun x : Int => (AV.int .i64 x)) := by
  refine cpm_intro (n := 36) 1 Try.func24 rfl (by decide) rfl rfl fun h0 ids hI => ?_
  refine wr_in (wr_mod (names_index_Volume_volume.eq_1 _) ?_)
  refine wr_seq ?_
  refine wr_region ?_
  refine wo_val .mnil rfl pv_assign ?_
  refine wo_nil ?_
  refine wr_seq ?_
  refine wr_region ?_
  refine wo_makeMap (j := 0) hI rfl rfl rfl rfl fun g => ?_
  refine wo_val (.map (ix ids 0) g) rfl pv_assign ?_
  refine wo_nil ?_
  refine wr_hp [(some (.mp g (mE (fun x : Str => (AV.str x)) (fun x : Int => (AV.int .i64 x)) []))), none] rfl ?_
  refine wr_seq ?_
  refine wr_seq ?_
  refine wr_region ?_
  refine wo_val (.sl 2 (List.map rVolume l)) rfl pv_move ?_
  refine wo_val (.int .i64 (l.length : Int)) rfl (pv_len (len_sl ti22)) ?_
  refine wo_val (.int .i64 0) rfl pv_move ?_
  refine wo_nil ?_
  refine wr_block ?_
  refine wr_is [(1, (.func (.func 25) [] [])), (5, (.map (ix ids 0) g)), (11, (.sl 2 (List.map rVolume l))), (12, (.int .i64 (l.length : Int))), (13, (.int .i64 0))] (.cons rfl (.cons rfl (.cons rfl (.cons rfl (.cons rfl .nil))))) ?_
  refine wf_eachS' (P := Try.prog) l (fun j a => fun m => names_index_Volume_volume_b1 j a m) (((fun m => .ok m)) : (List (Str × Int)) → R (List (Str × Int)))
    (fun j => fun m => fun (fr : Nat → AV) (h : AHeap) => fr = frA [(1, (.func (.func 25) [] [])), (5, (.map (ix ids 0) g)), (11, (.sl 2 (List.map rVolume l))), (12, (.int .i64 (l.length : Int))), (13, (.int .i64 (j : Int)))] ∧ h = hp h0 ids [(some (.mp g (mE (fun x : Str => (AV.str x)) (fun x : Int => (AV.int .i64 x)) m))), none]) [] ?_ ?_ ?_
  · exact ⟨rfl, rfl⟩
  · rintro j a ha W hW m fr h ⟨rfl, rfl⟩
    refine wr_mod (m' := names_index_Volume_volume_b1 j a m) rfl (wr_mod (names_index_Volume_volume_b1.eq_1 _ _ _) ?_)
    refine wr_seq ?_
    refine wr_region ?_
    refine wo_val (.bool (decide ((j : Int) < (l.length : Int)))) rfl (pv_bin rfl rfl rfl) ?_
    refine wo_nil ?_
    refine wr_seq ?_
    refine wr_lim (t := 11) (L := l) rfl fun hlim => ?_
    refine wr_condT rfl (Int.ofNat_lt.2 (lt_of_get ha)) ?_
    refine wr_skip ?_
    refine wr_seq ?_
    refine wr_block ?_
    refine wr_seq ?_
    refine wr_region ?_
    refine wo_val (.int .i64 (j : Int)) rfl pv_move ?_
    refine wo_val (.cp (rVolume a) 0) rfl (pv_ixa (ixa_nat ti22 ti41 rfl ha)) ?_
    refine wo_val (.agg (rVolume a)) rfl (pv_load (ld_cp ti41 rfl)) ?_
    refine wo_alloc (j := 1) hI rfl rfl rfl rfl ti41 rfl fun g1 => ?_
    refine wo_val (.int .i64 (j : Int)) rfl pv_assign ?_
    refine wo_store (st_ptr hI rfl rfl rfl rfl ti41 rfl rfl rfl rfl rfl) ?_
    refine wo_nil ?_
    refine wr_hp [(some (.mp g (mE (fun x : Str => (AV.str x)) (fun x : Int => (AV.int .i64 x)) m))), (some (.rows g1 2 [(rVolume a)]))] rfl ?_
    refine wr_seq ?_
    refine wr_region ?_
    refine wo_val (.map (ix ids 0) g) rfl pv_move ?_
    refine wo_val (.func (.func 25) [] []) rfl pv_move ?_
    refine wo_val (.agg (rVolume a)) rfl (pv_load (ld_ptr hI rfl rfl rfl ti41 rfl)) ?_
    refine of_call [(.agg (rVolume a))] rfl rfl rfl rfl ((cp_names_volume a) _) (fun v _ => wu_panM Try.func24 hI) fun r _ => ?_
    refine wo_val (.tup [(.int .i64 (Option.getD (mget m r) 0)), (.bool (Option.isSome (mget m r)))]) rfl (pv_look (look_map (eK := (fun x : Str => (AV.str x))) (eV := (fun x : Int => (AV.int .i64 x))) (zv := 0) (mapOf_at (hI.at rfl rfl)) ti70 ti9 ti3 keyE_str rfl).2) ?_
    refine wo_val (.tup [(.int .i64 (Option.getD (mget m r) 0)), (.bool (Option.isSome (mget m r)))]) rfl pv_move ?_
    refine wo_val (.int .i64 (Option.getD (mget m r) 0)) rfl (pv_ext rfl) ?_
    refine wo_val (.bool (Option.isSome (mget m r))) rfl (pv_ext rfl) ?_
    refine wo_val (.int .i64 (Option.getD (mget m r) 0)) rfl pv_assign ?_
    refine wo_val (.bool (Option.isSome (mget m r))) rfl pv_assign ?_
    refine wo_nil ?_
    refine wr_seq ?_
    refine wr_region ?_
    refine wo_val (.bool (Option.isSome (mget m r))) rfl pv_move ?_
    refine wo_val (.bool (!(Option.isSome (mget m r)))) rfl (pv_un rfl) ?_
    refine of_call [(.bool (!(Option.isSome (mget m r)))), (.int .i64 91)] rfl rfl rfl rfl ((cp_names_must (!(Option.isSome (mget m r))) 91) _) (fun v _ => wu_panM Try.func24 hI) fun _ _ => ?_
    refine wo_nil ?_
    refine wr_region ?_
    refine wo_val (.map (ix ids 0) g) rfl pv_move ?_
    refine wo_val (.func (.func 25) [] []) rfl pv_move ?_
    refine wo_val (.agg (rVolume a)) rfl (pv_load (ld_ptr hI rfl rfl rfl ti41 rfl)) ?_
    refine of_call [(.agg (rVolume a))] rfl rfl rfl rfl ((cp_names_volume a) _) (fun v _ => wu_panM Try.func24 hI) fun r2 _ => ?_
    refine wo_val (.int .i64 (j : Int)) rfl pv_move ?_
    refine wo_mapUpdate (j := 0) (eK := (fun x : Str => (AV.str x))) (eV := (fun x : Int => (AV.int .i64 x))) (M := m) (ky := r2) (w := (j : Int)) hI rfl rfl rfl rfl rfl rfl ti70 ti9 keyE_str ?_
    refine wo_nil ?_
    refine wr_hp [(some (.mp g (mE (fun x : Str => (AV.str x)) (fun x : Int => (AV.int .i64 x)) (mput m r2 (j : Int))))), (some (.rows g1 2 [(rVolume a)]))] rfl ?_
    refine wr_inBlock ?_
    refine wr_region ?_
    refine wo_val (.int .i64 (IntKind.wrap .i64 ((j : Int) + 1))) rfl (pv_bin rfl rfl rfl) ?_
    refine wo_val (.int .i64 (IntKind.wrap .i64 ((j : Int) + 1))) rfl pv_move ?_
    refine wo_nil ?_
    refine wr_drop [(some (.mp g (mE (fun x : Str => (AV.str x)) (fun x : Int => (AV.int .i64 x)) (mput m r2 (j : Int))))), none] hI rfl (.keep (.drop .nil)) ?_
    refine wr_is [(1, (.func (.func 25) [] [])), (5, (.map (ix ids 0) g)), (11, (.sl 2 (List.map rVolume l))), (12, (.int .i64 (l.length : Int))), (13, (.int .i64 ((j + 1 : Nat) : Int)))] (.cons rfl (.cons rfl (.cons rfl (.cons rfl (.cons (inc_ok (lt_of_get ha) hlim) .nil))))) ?_
    refine wb_S ?_
    refine hW (mput m r2 (j : Int)) _ _ ?_
    exact ⟨rfl, rfl⟩
  · rintro m fr h ⟨rfl, rfl⟩
    refine wr_seq ?_
    refine wr_region ?_
    refine wo_val (.bool (decide ((l.length : Int) < (l.length : Int)))) rfl (pv_bin rfl rfl rfl) ?_
    refine wo_nil ?_
    refine wr_seq ?_
    refine wr_condF rfl (Int.lt_irrefl _) ?_
    refine wr_exit rfl ?_
    refine wr_seq ?_
    refine wr_region ?_
    refine wo_val (.map (ix ids 0) g) rfl pv_move ?_
    refine wo_val (.map (ix ids 0) g) rfl pv_assign ?_
    refine wo_nil ?_
    exact wr_retM (a := m) (g := g) Try.func24 hI rfl rfl rfl

theorem cp_names_Resolve_c2 (s : Sector) : CP Try.prog 27 [(.agg (rSector s))] (names_Resolve_c2 s) (fun (x : Str) => (AV.str x)) := by
  refine cp_intro (n := 5) 1 Try.func27 rfl (by decide) rfl rfl fun h0 ids hI => ?_
  refine wr_in (wr_mod (names_Resolve_c2.eq_1 _) ?_)
  refine wr_seq ?_
  refine wr_region ?_
  refine wo_box (v := (.agg (rSector s))) (j := 0) hI rfl rfl rfl rfl rfl rfl rfl fun g => ?_
  refine wo_val (.str []) rfl pv_assign ?_
  refine wo_nil ?_
  refine wr_hp [(some (.rows g 5 [(rSector s)]))] rfl ?_
  refine wr_seq ?_
  refine wr_region ?_
  refine wo_val (.ptr (ix ids 0) g 0 0) rfl (pv_fa (fa_ptr (c := 0) (off := 0) (i := 0) ti53 rfl ti9 rfl)) ?_
  refine wo_val (.str s.Name) rfl (pv_load (ld_ptr hI rfl rfl rfl ti9 rfl)) ?_
  refine wo_val (.str s.Name) rfl pv_assign ?_
  refine wo_nil ?_
  exact wr_ret (a := s.Name) (vs := [(.str s.Name)]) Try.func27 hI rfl (.same _)

theorem cpm_names_index_Sector_c2 (l : (List Sector)) : CPM Try.prog 26 [(.sl 5 (List.map rSector l)), (.func (.func 27) [] [])] (names_index_Sector_c2 l) (fun x : Str => (AV.str x)) (fun x : Int => (AV.int .i64 x)) := by
  refine cpm_intro (n := 36) 1 Try.func26 rfl (by decide) rfl rfl fun h0 ids hI => ?_
  refine wr_in (wr_mod (names_index_Sector_c2.eq_1 _) ?_)
  refine wr_seq ?_
  refine wr_region ?_
  refine wo_val .mnil rfl pv_assign ?_
  refine wo_nil ?_
  refine wr_seq ?_
  refine wr_region ?_
  refine wo_makeMap (j := 0) hI rfl rfl rfl rfl fun g => ?_
  refine wo_val (.map (ix ids 0) g) rfl pv_assign ?_
  refine wo_nil ?_
  refine wr_hp [(some (.mp g (mE (fun x : Str => (AV.str x)) (fun x : Int => (AV.int .i64 x)) []))), none] rfl ?_
  refine wr_seq ?_
  refine wr_seq ?_
  refine wr_region ?_
  refine wo_val (.sl 5 (List.map rSector l)) rfl pv_move ?_
  refine wo_val (.int .i64 (l.length : Int)) rfl (pv_len (len_sl ti23)) ?_
  refine wo_val (.int .i64 0) rfl pv_move ?_
  refine wo_nil ?_
  refine wr_block ?_
  refine wr_is [(1, (.func (.func 27) [] [])), (5, (.map (ix ids 0) g)), (11, (.sl 5 (List.map rSector l))), (12, (.int .i64 (l.length : Int))), (13, (.int .i64 0))] (.cons rfl (.cons rfl (.cons rfl (.cons rfl (.cons rfl .nil))))) ?_
  refine wf_eachS' (P := Try.prog) l (fun j a => fun m => names_index_Sector_c2_b1 j a m) (((fun m => .ok m)) : (List (Str × Int)) → R (List (Str × Int)))
    (fun j => fun m => fun (fr : Nat → AV) (h : AHeap) => fr = frA [(1, (.func (.func 27) [] [])), (5, (.map (ix ids 0) g)), (11, (.sl 5 (List.map rSector l))), (12, (.int .i64 (l.length : Int))), (13, (.int .i64 (j : Int)))] ∧ h = hp h0 ids [(some (.mp g (mE (fun x : Str => (AV.str x)) (fun x : Int => (AV.int .i64 x)) m))), none]) [] ?_ ?_ ?_
  · exact ⟨rfl, rfl⟩
  · rintro j a ha W hW m fr h ⟨rfl, rfl⟩
    refine wr_mod (m' := names_index_Sector_c2_b1 j a m) rfl (wr_mod (names_index_Sector_c2_b1.eq_1 _ _ _) ?_)
    refine wr_seq ?_
    refine wr_region ?_
    refine wo_val (.bool (decide ((j : Int) < (l.length : Int)))) rfl (pv_bin rfl rfl rfl) ?_
    refine wo_nil ?_
    refine wr_seq ?_
    refine wr_lim (t := 11) (L := l) rfl fun hlim => ?_
    refine wr_condT rfl (Int.ofNat_lt.2 (lt_of_get ha)) ?_
    refine wr_skip ?_
    refine wr_seq ?_
    refine wr_block ?_
    refine wr_seq ?_
    refine wr_region ?_
    refine wo_val (.int .i64 (j : Int)) rfl pv_move ?_
    refine wo_val (.cp (rSector a) 0) rfl (pv_ixa (ixa_nat ti23 ti53 rfl ha)) ?_
    refine wo_val (.agg (rSector a)) rfl (pv_load (ld_cp ti53 rfl)) ?_
    refine wo_alloc (j := 1) hI rfl rfl rfl rfl ti53 rfl fun g1 => ?_
    refine wo_val (.int .i64 (j : Int)) rfl pv_assign ?_
    refine wo_store (st_ptr hI rfl rfl rfl rfl ti53 rfl rfl rfl rfl rfl) ?_
    refine wo_nil ?_
    refine wr_hp [(some (.mp g (mE (fun x : Str => (AV.str x)) (fun x : Int => (AV.int .i64 x)) m))), (some (.rows g1 5 [(rSector a)]))] rfl ?_
    refine wr_seq ?_
    refine wr_region ?_
    refine wo_val (.map (ix ids 0) g) rfl pv_move ?_
    refine wo_val (.func (.func 27) [] []) rfl pv_move ?_
    refine wo_val (.agg (rSector a)) rfl (pv_load (ld_ptr hI rfl rfl rfl ti53 rfl)) ?_
    refine of_call [(.agg (rSector a))] rfl rfl rfl rfl ((cp_names_Resolve_c2 a) _) (fun v _ => wu_panM Try.func26 hI) fun r _ => ?_
    refine wo_val (.tup [(.int .i64 (Option.getD (mget m r) 0)), (.bool (Option.isSome (mget m r)))]) rfl (pv_look (look_map (eK := (fun x : Str => (AV.str x))) (eV := (fun x : Int => (AV.int .i64 x))) (zv := 0) (mapOf_at (hI.at rfl rfl)) ti70 ti9 ti3 keyE_str rfl).2) ?_
    refine wo_val (.tup [(.int .i64 (Option.getD (mget m r) 0)), (.bool (Option.isSome (mget m r)))]) rfl pv_move ?_
    refine wo_val (.int .i64 (Option.getD (mget m r) 0)) rfl (pv_ext rfl) ?_
    refine wo_val (.bool (Option.isSome (mget m r))) rfl (pv_ext rfl) ?_
    refine wo_val (.int .i64 (Option.getD (mget m r) 0)) rfl pv_assign ?_
    refine wo_val (.bool (Option.isSome (mget m r))) rfl pv_assign ?_
    refine wo_nil ?_
    refine wr_seq ?_
    refine wr_region ?_
    refine wo_val (.bool (Option.isSome (mget m r))) rfl pv_move ?_
    refine wo_val (.bool (!(Option.isSome (mget m r)))) rfl (pv_un rfl) ?_
    refine of_call [(.bool (!(Option.isSome (mget m r)))), (.int .i64 91)] rfl rfl rfl rfl ((cp_names_must (!(Option.isSome (mget m r))) 91) _) (fun v _ => wu_panM Try.func26 hI) fun _ _ => ?_
    refine wo_nil ?_
    refine wr_region ?_
    refine wo_val (.map (ix ids 0) g) rfl pv_move ?_
    refine wo_val (.func (.func 27) [] []) rfl pv_move ?_
    refine wo_val (.agg (rSector a)) rfl (pv_load (ld_ptr hI rfl rfl rfl ti53 rfl)) ?_
    refine of_call [(.agg (rSector a))] rfl rfl rfl rfl ((cp_names_Resolve_c2 a) _) (fun v _ => wu_panM Try.func26 hI) fun r2 _ => ?_
    refine wo_val (.int .i64 (j : Int)) rfl pv_move ?_
    refine wo_mapUpdate (j := 0) (eK := (fun x : Str => (AV.str x))) (eV := (fun x : Int => (AV.int .i64 x))) (M := m) (ky := r2) (w := (j : Int)) hI rfl rfl rfl rfl rfl rfl ti70 ti9 keyE_str ?_
    refine wo_nil ?_
    refine wr_hp [(some (.mp g (mE (fun x : Str => (AV.str x)) (fun x : Int => (AV.int .i64 x)) (mput m r2 (j : Int))))), (some (.rows g1 5 [(rSector a)]))] rfl ?_
    refine wr_inBlock ?_
    refine wr_region ?_
    refine wo_val (.int .i64 (IntKind.wrap .i64 ((j : Int) + 1))) rfl (pv_bin rfl rfl rfl) ?_
    refine wo_val (.int .i64 (IntKind.wrap .i64 ((j : Int) + 1))) rfl pv_move ?_
    refine wo_nil ?_
    refine wr_drop [(some (.mp g (mE (fun x : Str => (AV.str x)) (fun x : Int => (AV.int .i64 x)) (mput m r2 (j : Int))))), none] hI rfl (.keep (.drop .nil)) ?_
    refine wr_is [(1, (.func (.func 27) [] [])), (5, (.map (ix ids 0) g)), (11, (.sl 5 (List.map rSector l))), (12, (.int .i64 (l.length : Int))), (13, (.int .i64 ((j + 1 : Nat) : Int)))] (.cons rfl (.cons rfl (.cons rfl (.cons rfl (.cons (inc_ok (lt_of_get ha) hlim) .nil))))) ?_
    refine wb_S ?_
    refine hW (mput m r2 (j : Int)) _ _ ?_
    exact ⟨rfl, rfl⟩
  · rintro m fr h ⟨rfl, rfl⟩
    refine wr_seq ?_
    refine wr_region ?_
    refine wo_val (.bool (decide ((l.length : Int) < (l.length : Int)))) rfl (pv_bin rfl rfl rfl) ?_
    refine wo_nil ?_
    refine wr_seq ?_
    refine wr_condF rfl (Int.lt_irrefl _) ?_
    refine wr_exit rfl ?_
    refine wr_seq ?_
    refine wr_region ?_
    refine wo_val (.map (ix ids 0) g) rfl pv_move ?_
    refine wo_val (.map (ix ids 0) g) rfl pv_assign ?_
    refine wo_nil ?_
    exact wr_retM (a := m) (g := g) Try.func26 hI rfl rfl rfl

theorem cp_names_Resolve_c3 (c : Config) : CP Try.prog 29 [(.agg (rConfig c))] (names_Resolve_c3 c) (fun (x : Str) => (AV.str x)) := by
  refine cp_intro (n := 5) 1 Try.func29 rfl (by decide) rfl rfl fun h0 ids hI => ?_
  refine wr_in (wr_mod (names_Resolve_c3.eq_1 _) ?_)
  refine wr_seq ?_
  refine wr_region ?_
  refine wo_box (v := (.agg (rConfig c))) (j := 0) hI rfl rfl rfl rfl rfl rfl rfl fun g => ?_
  refine wo_val (.str []) rfl pv_assign ?_
  refine wo_nil ?_
  refine wr_hp [(some (.rows g 3 [(rConfig c)]))] rfl ?_
  refine wr_seq ?_
  refine wr_region ?_
  refine wo_val (.ptr (ix ids 0) g 0 0) rfl (pv_fa (fa_ptr (c := 0) (off := 0) (i := 0) ti55 rfl ti9 rfl)) ?_
  refine wo_val (.str c.Name) rfl (pv_load (ld_ptr hI rfl rfl rfl ti9 rfl)) ?_
  refine wo_val (.str c.Name) rfl pv_assign ?_
  refine wo_nil ?_
  exact wr_ret (a := c.Name) (vs := [(.str c.Name)]) Try.func29 hI rfl (.same _)

theorem cpm_names_index_Config_c3 (l : (List Config)) : CPM Try.prog 28 [(.sl 3 (List.map rConfig l)), (.func (.func 29) [] [])] (names_index_Config_c3 l) (fun x : Str => (AV.str x)) (fun x : Int => (AV.int .i64 x)) := by
  refine cpm_intro (n := 36) 1 Try.func28 rfl (by decide) rfl rfl fun h0 ids hI => ?_
  refine wr_in (wr_mod (names_index_Config_c3.eq_1 _) ?_)
  refine wr_seq ?_
  refine wr_region ?_
  refine wo_val .mnil rfl pv_assign ?_
  refine wo_nil ?_
  refine wr_seq ?_
  refine wr_region ?_
  refine wo_makeMap (j := 0) hI rfl rfl rfl rfl fun g => ?_
  refine wo_val (.map (ix ids 0) g) rfl pv_assign ?_
  refine wo_nil ?_
  refine wr_hp [(some (.mp g (mE (fun x : Str => (AV.str x)) (fun x : Int => (AV.int .i64 x)) []))), none] rfl ?_
  refine wr_seq ?_
  refine wr_seq ?_
  refine wr_region ?_
  refine wo_val (.sl 3 (List.map rConfig l)) rfl pv_move ?_
  refine wo_val (.int .i64 (l.length : Int)) rfl (pv_len (len_sl ti24)) ?_
  refine wo_val (.int .i64 0) rfl pv_move ?_
  refine wo_nil ?_
  refine wr_block ?_
  refine wr_is [(1, (.func (.func 29) [] [])), (5, (.map (ix ids 0) g)), (11, (.sl 3 (List.map rConfig l))), (12, (.int .i64 (l.length : Int))), (13, (.int .i64 0))] (.cons rfl (.cons rfl (.cons rfl (.cons rfl (.cons rfl .nil))))) ?_
  refine wf_eachS' (P := Try.prog) l (fun j a => fun m => names_index_Config_c3_b1 j a m) (((fun m => .ok m)) : (List (Str × Int)) → R (List (Str × Int)))
    (fun j => fun m => fun (fr : Nat → AV) (h : AHeap) => fr = frA [(1, (.func (.func 29) [] [])), (5, (.map (ix ids 0) g)), (11, (.sl 3 (List.map rConfig l))), (12, (.int .i64 (l.length : Int))), (13, (.int .i64 (j : Int)))] ∧ h = hp h0 ids [(some (.mp g (mE (fun x : Str => (AV.str x)) (fun x : Int => (AV.int .i64 x)) m))), none]) [] ?_ ?_ ?_
  · exact ⟨rfl, rfl⟩
  · rintro j a ha W hW m fr h ⟨rfl, rfl⟩
    refine wr_mod (m' := names_index_Config_c3_b1 j a m) rfl (wr_mod (names_index_Config_c3_b1.eq_1 _ _ _) ?_)
    refine wr_seq ?_
    refine wr_region ?_
    refine wo_val (.bool (decide ((j : Int) < (l.length : Int)))) rfl (pv_bin rfl rfl rfl) ?_
    refine wo_nil ?_
    refine wr_seq ?_
    refine wr_lim (t := 11) (L := l) rfl fun hlim => ?_
    refine wr_condT rfl (Int.ofNat_lt.2 (lt_of_get ha)) ?_
    refine wr_skip ?_
    refine wr_seq ?_
    refine wr_block ?_
    refine wr_seq ?_
    refine wr_region ?_
    refine wo_val (.int .i64 (j : Int)) rfl pv_move ?_
    refine wo_val (.cp (rConfig a) 0) rfl (pv_ixa (ixa_nat ti24 ti55 rfl ha)) ?_
    refine wo_val (.agg (rConfig a)) rfl (pv_load (ld_cp ti55 rfl)) ?_
    refine wo_alloc (j := 1) hI rfl rfl rfl rfl ti55 rfl fun g1 => ?_
    refine wo_val (.int .i64 (j : Int)) rfl pv_assign ?_
    refine wo_store (st_ptr hI rfl rfl rfl rfl ti55 rfl rfl rfl rfl rfl) ?_
    refine wo_nil ?_
    refine wr_hp [(some (.mp g (mE (fun x : Str => (AV.str x)) (fun x : Int => (AV.int .i64 x)) m))), (some (.rows g1 3 [(rConfig a)]))] rfl ?_
    refine wr_seq ?_
    refine wr_region ?_
    refine wo_val (.map (ix ids 0) g) rfl pv_move ?_
    refine wo_val (.func (.func 29) [] []) rfl pv_move ?_
    refine wo_val (.agg (rConfig a)) rfl (pv_load (ld_ptr hI rfl rfl rfl ti55 rfl)) ?_
    refine of_call [(.agg (rConfig a))] rfl rfl rfl rfl ((cp_names_Resolve_c3 a) _) (fun v _ => wu_panM Try.func28 hI) fun r _ => ?_
    refine wo_val (.tup [(.int .i64 (Option.getD (mget m r) 0)), (.bool (Option.isSome (mget m r)))]) rfl (pv_look (look_map (eK := (fun x : Str => (AV.str x))) (eV := (fun x : Int => (AV.int .i64 x))) (zv := 0) (mapOf_at (hI.at rfl rfl)) ti70 ti9 ti3 keyE_str rfl).2) ?_
    refine wo_val (.tup [(.int .i64 (Option.getD (mget m r) 0)), (.bool (Option.isSome (mget m r)))]) rfl pv_move ?_
    refine wo_val (.int .i64 (Option.getD (mget m r) 0)) rfl (pv_ext rfl) ?_
    refine wo_val (.bool (Option.isSome (mget m r))) rfl (pv_ext rfl) ?_
    refine wo_val (.int .i64 (Option.getD (mget m r) 0)) rfl pv_assign ?_
    refine wo_val (.bool (Option.isSome (mget m r))) rfl pv_assign ?_
    refine wo_nil ?_
    refine wr_seq ?_
    refine wr_region ?_
    refine wo_val (.bool (Option.isSome (mget m r))) rfl pv_move ?_
    refine wo_val (.bool (!(Option.isSome (mget m r)))) rfl (pv_un rfl) ?_
    refine of_call [(.bool (!(Option.isSome (mget m r)))), (.int .i64 91)] rfl rfl rfl rfl ((cp_names_must (!(Option.isSome (mget m r))) 91) _) (fun v _ => wu_panM Try.func28 hI) fun _ _ => ?_
    refine wo_nil ?_
    refine wr_region ?_
    refine wo_val (.map (ix ids 0) g) rfl pv_move ?_
    refine wo_val (.func (.func 29) [] []) rfl pv_move ?_
    refine wo_val (.agg (rConfig a)) rfl (pv_load (ld_ptr hI rfl rfl rfl ti55 rfl)) ?_
    refine of_call [(.agg (rConfig a))] rfl rfl rfl rfl ((cp_names_Resolve_c3 a) _) (fun v _ => wu_panM Try.func28 hI) fun r2 _ => ?_
    refine wo_val (.int .i64 (j : Int)) rfl pv_move ?_
    refine wo_mapUpdate (j := 0) (eK := (fun x : Str => (AV.str x))) (eV := (fun x : Int => (AV.int .i64 x))) (M := m) (ky := r2) (w := (j : Int)) hI rfl rfl rfl rfl rfl rfl ti70 ti9 keyE_str ?_
    refine wo_nil ?_
    refine wr_hp [(some (.mp g (mE (fun x : Str => (AV.str x)) (fun x : Int => (AV.int .i64 x)) (mput m r2 (j : Int))))), (some (.rows g1 3 [(rConfig a)]))] rfl ?_
    refine wr_inBlock ?_
    refine wr_region ?_
    refine wo_val (.int .i64 (IntKind.wrap .i64 ((j : Int) + 1))) rfl (pv_bin rfl rfl rfl) ?_
    refine wo_val (.int .i64 (IntKind.wrap .i64 ((j : Int) + 1))) rfl pv_move ?_
    refine wo_nil ?_
    refine wr_drop [(some (.mp g (mE (fun x : Str => (AV.str x)) (fun x : Int => (AV.int .i64 x)) (mput m r2 (j : Int))))), none] hI rfl (.keep (.drop .nil)) ?_
    refine wr_is [(1, (.func (.func 29) [] [])), (5, (.map (ix ids 0) g)), (11, (.sl 3 (List.map rConfig l))), (12, (.int .i64 (l.length : Int))), (13, (.int .i64 ((j + 1 : Nat) : Int)))] (.cons rfl (.cons rfl (.cons rfl (.cons rfl (.cons (inc_ok (lt_of_get ha) hlim) .nil))))) ?_
    refine wb_S ?_
    refine hW (mput m r2 (j : Int)) _ _ ?_
    exact ⟨rfl, rfl⟩
  · rintro m fr h ⟨rfl, rfl⟩
    refine wr_seq ?_
    refine wr_region ?_
    refine wo_val (.bool (decide ((l.length : Int) < (l.length : Int)))) rfl (pv_bin rfl rfl rfl) ?_
    refine wo_nil ?_
    refine wr_seq ?_
    refine wr_condF rfl (Int.lt_irrefl _) ?_
    refine wr_exit rfl ?_
    refine wr_seq ?_
    refine wr_region ?_
    refine wo_val (.map (ix ids 0) g) rfl pv_move ?_
    refine wo_val (.map (ix ids 0) g) rfl pv_assign ?_
    refine wo_nil ?_
    exact wr_retM (a := m) (g := g) Try.func28 hI rfl rfl rfl

theorem cp_names_Resolve_c4 (s : Segment) : CP Try.prog 31 [(.agg (rSegment s))] (names_Resolve_c4 s) (fun (x : Str) => (AV.str x)) := by
  refine cp_intro (n := 5) 1 Try.func31 rfl (by decide) rfl rfl fun h0 ids hI => ?_
  refine wr_in (wr_mod (names_Resolve_c4.eq_1 _) ?_)
  refine wr_seq ?_
  refine wr_region ?_
  refine wo_box (v := (.agg (rSegment s))) (j := 0) hI rfl rfl rfl rfl rfl rfl rfl fun g => ?_
  refine wo_val (.str []) rfl pv_assign ?_
  refine wo_nil ?_
  refine wr_hp [(some (.rows g 5 [(rSegment s)]))] rfl ?_
  refine wr_seq ?_
  refine wr_region ?_
  refine wo_val (.ptr (ix ids 0) g 0 0) rfl (pv_fa (fa_ptr (c := 0) (off := 0) (i := 0) ti57 rfl ti9 rfl)) ?_
  refine wo_val (.str s.Name) rfl (pv_load (ld_ptr hI rfl rfl rfl ti9 rfl)) ?_
  refine wo_val (.str s.Name) rfl pv_assign ?_
  refine wo_nil ?_
  exact wr_ret (a := s.Name) (vs := [(.str s.Name)]) Try.func31 hI rfl (.same _)

theorem cpm_names_index_Segment_c4 (l : (List Segment)) : CPM Try.prog 30 [(.sl 5 (List.map rSegment l)), (.func (.func 31) [] [])] (names_index_Segment_c4 l) (fun x : Str => (AV.str x)) (fun x : Int => (AV.int .i64 x)) := by
  refine cpm_intro (n := 36) 1 Try.func30 rfl (by decide) rfl rfl fun h0 ids hI => ?_
  refine wr_in (wr_mod (names_index_Segment_c4.eq_1 _) ?_)
  refine wr_seq ?_
  refine wr_region ?_
  refine wo_val .mnil rfl pv_assign ?_
  refine wo_nil ?_
  refine wr_seq ?_
  refine wr_region ?_
  refine wo_makeMap (j := 0) hI rfl rfl rfl rfl fun g => ?_
  refine wo_val (.map (ix ids 0) g) rfl pv_assign ?_
  refine wo_nil ?_
  refine wr_hp [(some (.mp g (mE (fun x : Str => (AV.str x)) (fun x : Int => (AV.int .i64 x)) []))), none] rfl ?_
  refine wr_seq ?_
  refine wr_seq ?_
  refine wr_region ?_
  refine wo_val (.sl 5 (List.map rSegment l)) rfl pv_move ?_
  refine wo_val (.int .i64 (l.length : Int)) rfl (pv_len (len_sl ti25)) ?_
  refine wo_val (.int .i64 0) rfl pv_move ?_
  refine wo_nil ?_
  refine wr_block ?_
  refine wr_is [(1, (.func (.func 31) [] [])), (5, (.map (ix ids 0) g)), (11, (.sl 5 (List.map rSegment l))), (12, (.int .i64 (l.length : Int))), (13, (.int .i64 0))] (.cons rfl (.cons rfl (.cons rfl (.cons rfl (.cons rfl .nil))))) ?_
  refine wf_eachS' (P := Try.prog) l (fun j a => fun m => names_index_Segment_c4_b1 j a m) (((fun m => .ok m)) : (List (Str × Int)) → R (List (Str × Int)))
    (fun j => fun m => fun (fr : Nat → AV) (h : AHeap) => fr = frA [(1, (.func (.func 31) [] [])), (5, (.map (ix ids 0) g)), (11, (.sl 5 (List.map rSegment l))), (12, (.int .i64 (l.length : Int))), (13, (.int .i64 (j : Int)))] ∧ h = hp h0 ids [(some (.mp g (mE (fun x : Str => (AV.str x)) (fun x : Int => (AV.int .i64 x)) m))), none]) [] ?_ ?_ ?_
  · exact ⟨rfl, rfl⟩
  · rintro j a ha W hW m fr h ⟨rfl, rfl⟩
    refine wr_mod (m' := names_index_Segment_c4_b1 j a m) rfl (wr_mod (names_index_Segment_c4_b1.eq_1 _ _ _) ?_)
    refine wr_seq ?_
    refine wr_region ?_
    refine wo_val (.bool (decide ((j : Int) < (l.length : Int)))) rfl (pv_bin rfl rfl rfl) ?_
    refine wo_nil ?_
    refine wr_seq ?_
    refine wr_lim (t := 11) (L := l) rfl fun hlim => ?_
    refine wr_condT rfl (Int.ofNat_lt.2 (lt_of_get ha)) ?_
    refine wr_skip ?_
    refine wr_seq ?_
    refine wr_block ?_
    refine wr_seq ?_
    refine wr_region ?_
    refine wo_val (.int .i64 (j : Int)) rfl pv_move ?_
    refine wo_val (.cp (rSegment a) 0) rfl (pv_ixa (ixa_nat ti25 ti57 rfl ha)) ?_
    refine wo_val (.agg (rSegment a)) rfl (pv_load (ld_cp ti57 rfl)) ?_
    refine wo_alloc (j := 1) hI rfl rfl rfl rfl ti57 rfl fun g1 => ?_
    refine wo_val (.int .i64 (j : Int)) rfl pv_assign ?_
    refine wo_store (st_ptr hI rfl rfl rfl rfl ti57 rfl rfl rfl rfl rfl) ?_
    refine wo_nil ?_
    refine wr_hp [(some (.mp g (mE (fun x : Str => (AV.str x)) (fun x : Int => (AV.int .i64 x)) m))), (some (.rows g1 5 [(rSegment a)]))] rfl ?_
    refine wr_seq ?_
    refine wr_region ?_
    refine wo_val (.map (ix ids 0) g) rfl pv_move ?_
    refine wo_val (.func (.func 31) [] []) rfl pv_move ?_
    refine wo_val (.agg (rSegment a)) rfl (pv_load (ld_ptr hI rfl rfl rfl ti57 rfl)) ?_
    refine of_call [(.agg (rSegment a))] rfl rfl rfl rfl ((cp_names_Resolve_c4 a) _) (fun v _ => wu_panM Try.func30 hI) fun r _ => ?_
    refine wo_val (.tup [(.int .i64 (Option.getD (mget m r) 0)), (.bool (Option.isSome (mget m r)))]) rfl (pv_look (look_map (eK := (fun x : Str => (AV.str x))) (eV := (fun x : Int => (AV.int .i64 x))) (zv := 0) (mapOf_at (hI.at rfl rfl)) ti70 ti9 ti3 keyE_str rfl).2) ?_
    refine wo_val (.tup [(.int .i64 (Option.getD (mget m r) 0)), (.bool (Option.isSome (mget m r)))]) rfl pv_move ?_
    refine wo_val (.int .i64 (Option.getD (mget m r) 0)) rfl (pv_ext rfl) ?_
    refine wo_val (.bool (Option.isSome (mget m r))) rfl (pv_ext rfl) ?_
    refine wo_val (.int .i64 (Option.getD (mget m r) 0)) rfl pv_assign ?_
    refine wo_val (.bool (Option.isSome (mget m r))) rfl pv_assign ?_
    refine wo_nil ?_
    refine wr_seq ?_
    refine wr_region ?_
    refine wo_val (.bool (Option.isSome (mget m r))) rfl pv_move ?_
    refine wo_val (.bool (!(Option.isSome (mget m r)))) rfl (pv_un rfl) ?_
    refine of_call [(.bool (!(Option.isSome (mget m r)))), (.int .i64 91)] rfl rfl rfl rfl ((cp_names_must (!(Option.isSome (mget m r))) 91) _) (fun v _ => wu_panM Try.func30 hI) fun _ _ => ?_
    refine wo_nil ?_
    refine wr_region ?_
    refine wo_val (.map (ix ids 0) g) rfl pv_move ?_
    refine wo_val (.func (.func 31) [] []) rfl pv_move ?_
    refine wo_val (.agg (rSegment a)) rfl (pv_load (ld_ptr hI rfl rfl rfl ti57 rfl)) ?_
    refine of_call [(.agg (rSegment a))] rfl rfl rfl rfl ((cp_names_Resolve_c4 a) _) (fun v _ => wu_panM Try.func30 hI) fun r2 _ => ?_
    refine wo_val (.int .i64 (j : Int)) rfl pv_move ?_
    refine wo_mapUpdate (j := 0) (eK := (fun x : Str => (AV.str x))) (eV := (fun x : Int => (AV.int .i64 x))) (M := m) (ky := r2) (w := (j : Int)) hI rfl rfl rfl rfl rfl rfl ti70 ti9 keyE_str ?_
    refine wo_nil ?_
    refine wr_hp [(some (.mp g (mE (fun x : Str => (AV.str x)) (fun x : Int => (AV.int .i64 x)) (mput m r2 (j : Int))))), (some (.rows g1 5 [(rSegment a)]))] rfl ?_
    refine wr_inBlock ?_
    refine wr_region ?_
    refine wo_val (.int .i64 (IntKind.wrap .i64 ((j : Int) + 1))) rfl (pv_bin rfl rfl rfl) ?_
    refine wo_val (.int .i64 (IntKind.wrap .i64 ((j : Int) + 1))) rfl pv_move ?_
    refine wo_nil ?_
    refine wr_drop [(some (.mp g (mE (fun x : Str => (AV.str x)) (fun x : Int => (AV.int .i64 x)) (mput m r2 (j : Int))))), none] hI rfl (.keep (.drop .nil)) ?_
    refine wr_is [(1, (.func (.func 31) [] [])), (5, (.map (ix ids 0) g)), (11, (.sl 5 (List.map rSegment l))), (12, (.int .i64 (l.length : Int))), (13, (.int .i64 ((j + 1 : Nat) : Int)))] (.cons rfl (.cons rfl (.cons rfl (.cons rfl (.cons (inc_ok (lt_of_get ha) hlim) .nil))))) ?_
    refine wb_S ?_
    refine hW (mput m r2 (j : Int)) _ _ ?_
    exact ⟨rfl, rfl⟩
  · rintro m fr h ⟨rfl, rfl⟩
    refine wr_seq ?_
    refine wr_region ?_
    refine wo_val (.bool (decide ((l.length : Int) < (l.length : Int)))) rfl (pv_bin rfl rfl rfl) ?_
    refine wo_nil ?_
    refine wr_seq ?_
    refine wr_condF rfl (Int.lt_irrefl _) ?_
    refine wr_exit rfl ?_
    refine wr_seq ?_
    refine wr_region ?_
    refine wo_val (.map (ix ids 0) g) rfl pv_move ?_
    refine wo_val (.map (ix ids 0) g) rfl pv_assign ?_
    refine wo_nil ?_
    exact wr_retM (a := m) (g := g) Try.func30 hI rfl rfl rfl

theorem cp_names_Resolve_c5 (r : Route) : CP Try.prog 33 [(.agg (rRoute r))] (names_Resolve_c5 r) (fun (x : Str) => (AV.str x)) := by
  refine cp_intro (n := 5) 1 Try.func33 rfl (by decide) rfl rfl fun h0 ids hI => ?_
  refine wr_in (wr_mod (names_Resolve_c5.eq_1 _) ?_)
  refine wr_seq ?_
  refine wr_region ?_
  refine wo_box (v := (.agg (rRoute r))) (j := 0) hI rfl rfl rfl rfl rfl rfl rfl fun g => ?_
  refine wo_val (.str []) rfl pv_assign ?_
  refine wo_nil ?_
  refine wr_hp [(some (.rows g 7 [(rRoute r)]))] rfl ?_
  refine wr_seq ?_
  refine wr_region ?_
  refine wo_val (.ptr (ix ids 0) g 0 0) rfl (pv_fa (fa_ptr (c := 0) (off := 0) (i := 0) ti59 rfl ti9 rfl)) ?_
  refine wo_val (.str r.Name) rfl (pv_load (ld_ptr hI rfl rfl rfl ti9 rfl)) ?_
  refine wo_val (.str r.Name) rfl pv_assign ?_
  refine wo_nil ?_
  exact wr_ret (a := r.Name) (vs := [(.str r.Name)]) Try.func33 hI rfl (.same _)

theorem cpm_names_index_Route_c5 (l : (List Route)) : CPM Try.prog 32 [(.sl 7 (List.map rRoute l)), (.func (.func 33) [] [])] (names_index_Route_c5 l) (fun x : Str => (AV.str x)) (fun x : Int => (AV.int .i64 x)) := by
  refine cpm_intro (n := 36) 1 Try.func32 rfl (by decide) rfl rfl fun h0 ids hI => ?_
  refine wr_in (wr_mod (names_index_Route_c5.eq_1 _) ?_)
  refine wr_seq ?_
  refine wr_region ?_
  refine wo_val .mnil rfl pv_assign ?_
  refine wo_nil ?_
  refine wr_seq ?_
  refine wr_region ?_
  refine wo_makeMap (j := 0) hI rfl rfl rfl rfl fun g => ?_
  refine wo_val (.map (ix ids 0) g) rfl pv_assign ?_
  refine wo_nil ?_
  refine wr_hp [(some (.mp g (mE (fun x : Str => (AV.str x)) (fun x : Int => (AV.int .i64 x)) []))), none] rfl ?_
  refine wr_seq ?_
  refine wr_seq ?_
  refine wr_region ?_
  refine wo_val (.sl 7 (List.map rRoute l)) rfl pv_move ?_
  refine wo_val (.int .i64 (l.length : Int)) rfl (pv_len (len_sl ti26)) ?_
  refine wo_val (.int .i64 0) rfl pv_move ?_
  refine wo_nil ?_
  refine wr_block ?_
  refine wr_is [(1, (.func (.func 33) [] [])), (5, (.map (ix ids 0) g)), (11, (.sl 7 (List.map rRoute l))), (12, (.int .i64 (l.length : Int))), (13, (.int .i64 0))] (.cons rfl (.cons rfl (.cons rfl (.cons rfl (.cons rfl .nil))))) ?_
  refine wf_eachS' (P := Try.prog) l (fun j a => fun m => names_index_Route_c5_b1 j a m) (((fun m => .ok m)) : (List (Str × Int)) → R (List (Str × Int)))
    (fun j => fun m => fun (fr : Nat → AV) (h : AHeap) => fr = frA [(1, (.func (.func 33) [] [])), (5, (.map (ix ids 0) g)), (11, (.sl 7 (List.map rRoute l))), (12, (.int .i64 (l.length : Int))), (13, (.int .i64 (j : Int)))] ∧ h = hp h0 ids [(some (.mp g (mE (fun x : Str => (AV.str x)) (fun x : Int => (AV.int .i64 x)) m))), none]) [] ?_ ?_ ?_
  · exact ⟨rfl, rfl⟩
  · rintro j a ha W hW m fr h ⟨rfl, rfl⟩
    refine wr_mod (m' := names_index_Route_c5_b1 j a m) rfl (wr_mod (names_index_Route_c5_b1.eq_1 _ _ _) ?_)
    refine wr_seq ?_
    refine wr_region ?_
    refine wo_val (.bool (decide ((j : Int) < (l.length : Int)))) rfl (pv_bin rfl rfl rfl) ?_
    refine wo_nil ?_
    refine wr_seq ?_
    refine wr_lim (t := 11) (L := l) rfl fun hlim => ?_
    refine wr_condT rfl (Int.ofNat_lt.2 (lt_of_get ha)) ?_
    refine wr_skip ?_
    refine wr_seq ?_
    refine wr_block ?_
    refine wr_seq ?_
    refine wr_region ?_
    refine wo_val (.int .i64 (j : Int)) rfl pv_move ?_
    refine wo_val (.cp (rRoute a) 0) rfl (pv_ixa (ixa_nat ti26 ti59 rfl ha)) ?_
    refine wo_val (.agg (rRoute a)) rfl (pv_load (ld_cp ti59 rfl)) ?_
    refine wo_alloc (j := 1) hI rfl rfl rfl rfl ti59 rfl fun g1 => ?_
    refine wo_val (.int .i64 (j : Int)) rfl pv_assign ?_
    refine wo_store (st_ptr hI rfl rfl rfl rfl ti59 rfl rfl rfl rfl rfl) ?_
    refine wo_nil ?_
    refine wr_hp [(some (.mp g (mE (fun x : Str => (AV.str x)) (fun x : Int => (AV.int .i64 x)) m))), (some (.rows g1 7 [(rRoute a)]))] rfl ?_
    refine wr_seq ?_
    refine wr_region ?_
    refine wo_val (.map (ix ids 0) g) rfl pv_move ?_
    refine wo_val (.func (.func 33) [] []) rfl pv_move ?_
    refine wo_val (.agg (rRoute a)) rfl (pv_load (ld_ptr hI rfl rfl rfl ti59 rfl)) ?_
    refine of_call [(.agg (rRoute a))] rfl rfl rfl rfl ((cp_names_Resolve_c5 a) _) (fun v _ => wu_panM Try.func32 hI) fun r _ => ?_
    refine wo_val (.tup [(.int .i64 (Option.getD (mget m r) 0)), (.bool (Option.isSome (mget m r)))]) rfl (pv_look (look_map (eK := (fun x : Str => (AV.str x))) (eV := (fun x : Int => (AV.int .i64 x))) (zv := 0) (mapOf_at (hI.at rfl rfl)) ti70 ti9 ti3 keyE_str rfl).2) ?_
    refine wo_val (.tup [(.int .i64 (Option.getD (mget m r) 0)), (.bool (Option.isSome (mget m r)))]) rfl pv_move ?_
    refine wo_val (.int .i64 (Option.getD (mget m r) 0)) rfl (pv_ext rfl) ?_
    refine wo_val (.bool (Option.isSome (mget m r))) rfl (pv_ext rfl) ?_
    refine wo_val (.int .i64 (Option.getD (mget m r) 0)) rfl pv_assign ?_
    refine wo_val (.bool (Option.isSome (mget m r))) rfl pv_assign ?_
    refine wo_nil ?_
    refine wr_seq ?_
    refine wr_region ?_
    refine wo_val (.bool (Option.isSome (mget m r))) rfl pv_move ?_
    refine wo_val (.bool (!(Option.isSome (mget m r)))) rfl (pv_un rfl) ?_
    refine of_call [(.bool (!(Option.isSome (mget m r)))), (.int .i64 91)] rfl rfl rfl rfl ((cp_names_must (!(Option.isSome (mget m r))) 91) _) (fun v _ => wu_panM Try.func32 hI) fun _ _ => ?_
    refine wo_nil ?_
    refine wr_region ?_
    refine wo_val (.map (ix ids 0) g) rfl pv_move ?_
    refine wo_val (.func (.func 33) [] []) rfl pv_move ?_
    refine wo_val (.agg (rRoute a)) rfl (pv_load (ld_ptr hI rfl rfl rfl ti59 rfl)) ?_
    refine of_call [(.agg (rRoute a))] rfl rfl rfl rfl ((cp_names_Resolve_c5 a) _) (fun v _ => wu_panM Try.func32 hI) fun r2 _ => ?_
    refine wo_val (.int .i64 (j : Int)) rfl pv_move ?_
    refine wo_mapUpdate (j := 0) (eK := (fun x : Str => (AV.str x))) (eV := (fun x : Int => (AV.int .i64 x))) (M := m) (ky := r2) (w := (j : Int)) hI rfl rfl rfl rfl rfl rfl ti70 ti9 keyE_str ?_
    refine wo_nil ?_
    refine wr_hp [(some (.mp g (mE (fun x : Str => (AV.str x)) (fun x : Int => (AV.int .i64 x)) (mput m r2 (j : Int))))), (some (.rows g1 7 [(rRoute a)]))] rfl ?_
    refine wr_inBlock ?_
    refine wr_region ?_
    refine wo_val (.int .i64 (IntKind.wrap .i64 ((j : Int) + 1))) rfl (pv_bin rfl rfl rfl) ?_
    refine wo_val (.int .i64 (IntKind.wrap .i64 ((j : Int) + 1))) rfl pv_move ?_
    refine wo_nil ?_
    refine wr_drop [(some (.mp g (mE (fun x : Str => (AV.str x)) (fun x : Int => (AV.int .i64 x)) (mput m r2 (j : Int))))), none] hI rfl (.keep (.drop .nil)) ?_
    refine wr_is [(1, (.func (.func 33) [] [])), (5, (.map (ix ids 0) g)), (11, (.sl 7 (List.map rRoute l))), (12, (.int .i64 (l.length : Int))), (13, (.int .i64 ((j + 1 : Nat) : Int)))] (.cons rfl (.cons rfl (.cons rfl (.cons rfl (.cons (inc_ok (lt_of_get ha) hlim) .nil))))) ?_
    refine wb_S ?_
    refine hW (mput m r2 (j : Int)) _ _ ?_
    exact ⟨rfl, rfl⟩
  · rintro m fr h ⟨rfl, rfl⟩
    refine wr_seq ?_
    refine wr_region ?_
    refine wo_val (.bool (decide ((l.length : Int) < (l.length : Int)))) rfl (pv_bin rfl rfl rfl) ?_
    refine wo_nil ?_
    refine wr_seq ?_
    refine wr_condF rfl (Int.lt_irrefl _) ?_
    refine wr_exit rfl ?_
    refine wr_seq ?_
    refine wr_region ?_
    refine wo_val (.map (ix ids 0) g) rfl pv_move ?_
    refine wo_val (.map (ix ids 0) g) rfl pv_assign ?_
    refine wo_nil ?_
    exact wr_retM (a := m) (g := g) Try.func32 hI rfl rfl rfl

theorem cp_names_airport (p : Airport) : CP Try.prog 35 [(.agg (rAirport p))] (names_airport p) (fun (x : Str) => (AV.str x)) := by
  refine cp_intro (n := 5) 1 Try.func35 rfl (by decide) rfl rfl fun h0 ids hI => ?_
  refine wr_in (wr_mod (names_airport.eq_1 _) ?_)
  refine wr_seq ?_
  refine wr_region ?_
  refine wo_box (v := (.agg (rAirport p))) (j := 0) hI rfl rfl rfl rfl rfl rfl rfl fun g => ?_
  refine wo_val (.str []) rfl pv_assign ?_
  refine wo_nil ?_
  refine wr_hp [(some (.rows g 2 [(rAirport p)]))] rfl ?_
  refine wr_seq ?_
  refine wr_region ?_
  refine wo_val (.ptr (ix ids 0) g 0 0) rfl (pv_fa (fa_ptr (c := 0) (off := 0) (i := 0) ti46 rfl ti9 rfl)) ?_
  refine wo_val (.str p.Name) rfl (pv_load (ld_ptr hI rfl rfl rfl ti9 rfl)) ?_
  refine wo_val (.str p.Name) rfl pv_assign ?_
  refine wo_nil ?_
  exact wr_ret (a := p.Name) (vs := [(.str p.Name)]) Try.func35 hI rfl (.same _)

theorem cpm_names_index_Airport_airport (l : (List Airport)) : CPM Try.prog 34 [(.sl 2 (List.map rAirport l)), (.func (.func 35) [] [])] (names_index_Airport_airport l) (fun x : Str => (AV.str x)) (fun x : Int => (AV.int .i64 x)) := by
  refine cpm_intro (n := 36) 1 Try.func34 rfl (by decide) rfl rfl fun h0 ids hI => ?_
  refine wr_in (wr_mod (names_index_Airport_airport.eq_1 _) ?_)
  refine wr_seq ?_
  refine wr_region ?_
  refine wo_val .mnil rfl pv_assign ?_
  refine wo_nil ?_
  refine wr_seq ?_
  refine wr_region ?_
  refine wo_makeMap (j := 0) hI rfl rfl rfl rfl fun g => ?_
  refine wo_val (.map (ix ids 0) g) rfl pv_assign ?_
  refine wo_nil ?_
  refine wr_hp [(some (.mp g (mE (fun x : Str => (AV.str x)) (fun x : Int => (AV.int .i64 x)) []))), none] rfl ?_
  refine wr_seq ?_
  refine wr_seq ?_
  refine wr_region ?_
  refine wo_val (.sl 2 (List.map rAirport l)) rfl pv_move ?_
  refine wo_val (.int .i64 (l.length : Int)) rfl (pv_len (len_sl ti27)) ?_
  refine wo_val (.int .i64 0) rfl pv_move ?_
  refine wo_nil ?_
  refine wr_block ?_
  refine wr_is [(1, (.func (.func 35) [] [])), (5, (.map (ix ids 0) g)), (11, (.sl 2 (List.map rAirport l))), (12, (.int .i64 (l.length : Int))), (13, (.int .i64 0))] (.cons rfl (.cons rfl (.cons rfl (.cons rfl (.cons rfl .nil))))) ?_
  refine wf_eachS' (P := Try.prog) l (fun j a => fun m => names_index_Airport_airport_b1 j a m) (((fun m => .ok m)) : (List (Str × Int)) → R (List (Str × Int)))
    (fun j => fun m => fun (fr : Nat → AV) (h : AHeap) => fr = frA [(1, (.func (.func 35) [] [])), (5, (.map (ix ids 0) g)), (11, (.sl 2 (List.map rAirport l))), (12, (.int .i64 (l.length : Int))), (13, (.int .i64 (j : Int)))] ∧ h = hp h0 ids [(some (.mp g (mE (fun x : Str => (AV.str x)) (fun x : Int => (AV.int .i64 x)) m))), none]) [] ?_ ?_ ?_
  · exact ⟨rfl, rfl⟩
  · rintro j a ha W hW m fr h ⟨rfl, rfl⟩
    refine wr_mod (m' := names_index_Airport_airport_b1 j a m) rfl (wr_mod (names_index_Airport_airport_b1.eq_1 _ _ _) ?_)
    refine wr_seq ?_
    refine wr_region ?_
    refine wo_val (.bool (decide ((j : Int) < (l.length : Int)))) rfl (pv_bin rfl rfl rfl) ?_
    refine wo_nil ?_
    refine wr_seq ?_
    refine wr_lim (t := 11) (L := l) rfl fun hlim => ?_
    refine wr_condT rfl (Int.ofNat_lt.2 (lt_of_get ha)) ?_
    refine wr_skip ?_
    refine wr_seq ?_
    refine wr_block ?_
    refine wr_seq ?_
    refine wr_region ?_
    refine wo_val (.int .i64 (j : Int)) rfl pv_move ?_
    refine wo_val (.cp (rAirport a) 0) rfl (pv_ixa (ixa_nat ti27 ti46 rfl ha)) ?_
    refine wo_val (.agg (rAirport a)) rfl (pv_load (ld_cp ti46 rfl)) ?_
    refine wo_alloc (j := 1) hI rfl rfl rfl rfl ti46 rfl fun g1 => ?_
    refine wo_val (.int .i64 (j : Int)) rfl pv_assign ?_
    refine wo_store (st_ptr hI rfl rfl rfl rfl ti46 rfl rfl rfl rfl rfl) ?_
    refine wo_nil ?_
    refine wr_hp [(some (.mp g (mE (fun x : Str => (AV.str x)) (fun x : Int => (AV.int .i64 x)) m))), (some (.rows g1 2 [(rAirport a)]))] rfl ?_
    refine wr_seq ?_
    refine wr_region ?_
    refine wo_val (.map (ix ids 0) g) rfl pv_move ?_
    refine wo_val (.func (.func 35) [] []) rfl pv_move ?_
    refine wo_val (.agg (rAirport a)) rfl (pv_load (ld_ptr hI rfl rfl rfl ti46 rfl)) ?_
    refine of_call [(.agg (rAirport a))] rfl rfl rfl rfl ((cp_names_airport a) _) (fun v _ => wu_panM Try.func34 hI) fun r _ => ?_
    refine wo_val (.tup [(.int .i64 (Option.getD (mget m r) 0)), (.bool (Option.isSome (mget m r)))]) rfl (pv_look (look_map (eK := (fun x : Str => (AV.str x))) (eV := (fun x : Int => (AV.int .i64 x))) (zv := 0) (mapOf_at (hI.at rfl rfl)) ti70 ti9 ti3 keyE_str rfl).2) ?_
    refine wo_val (.tup [(.int .i64 (Option.getD (mget m r) 0)), (.bool (Option.isSome (mget m r)))]) rfl pv_move ?_
    refine wo_val (.int .i64 (Option.getD (mget m r) 0)) rfl (pv_ext rfl) ?_
    refine wo_val (.bool (Option.isSome (mget m r))) rfl (pv_ext rfl) ?_
    refine wo_val (.int .i64 (Option.getD (mget m r) 0)) rfl pv_assign ?_
    refine wo_val (.bool (Option.isSome (mget m r))) rfl pv_assign ?_
    refine wo_nil ?_
    refine wr_seq ?_
    refine wr_region ?_
    refine wo_val (.bool (Option.isSome (mget m r))) rfl pv_move ?_
    refine wo_val (.bool (!(Option.isSome (mget m r)))) rfl (pv_un rfl) ?_
    refine of_call [(.bool (!(Option.isSome (mget m r)))), (.int .i64 91)] rfl rfl rfl rfl ((cp_names_must (!(Option.isSome (mget m r))) 91) _) (fun v _ => wu_panM Try.func34 hI) fun _ _ => ?_
    refine wo_nil ?_
    refine wr_region ?_
    refine wo_val (.map (ix ids 0) g) rfl pv_move ?_
    refine wo_val (.func (.func 35) [] []) rfl pv_move ?_
    refine wo_val (.agg (rAirport a)) rfl (pv_load (ld_ptr hI rfl rfl rfl ti46 rfl)) ?_
    refine of_call [(.agg (rAirport a))] rfl rfl rfl rfl ((cp_names_airport a) _) (fun v _ => wu_panM Try.func34 hI) fun r2 _ => ?_
    refine wo_val (.int .i64 (j : Int)) rfl pv_move ?_
    refine wo_mapUpdate (j := 0) (eK := (fun x : Str => (AV.str x))) (eV := (fun x : Int => (AV.int .i64 x))) (M := m) (ky := r2) (w := (j : Int)) hI rfl rfl rfl rfl rfl rfl ti70 ti9 keyE_str ?_
    refine wo_nil ?_
    refine wr_hp [(some (.mp g (mE (fun x : Str => (AV.str x)) (fun x : Int => (AV.int .i64 x)) (mput m r2 (j : Int))))), (some (.rows g1 2 [(rAirport a)]))] rfl ?_
    refine wr_inBlock ?_
    refine wr_region ?_
    refine wo_val (.int .i64 (IntKind.wrap .i64 ((j : Int) + 1))) rfl (pv_bin rfl rfl rfl) ?_
    refine wo_val (.int .i64 (IntKind.wrap .i64 ((j : Int) + 1))) rfl pv_move ?_
    refine wo_nil ?_
    refine wr_drop [(some (.mp g (mE (fun x : Str => (AV.str x)) (fun x : Int => (AV.int .i64 x)) (mput m r2 (j : Int))))), none] hI rfl (.keep (.drop .nil)) ?_
    refine wr_is [(1, (.func (.func 35) [] [])), (5, (.map (ix ids 0) g)), (11, (.sl 2 (List.map rAirport l))), (12, (.int .i64 (l.length : Int))), (13, (.int .i64 ((j + 1 : Nat) : Int)))] (.cons rfl (.cons rfl (.cons rfl (.cons rfl (.cons (inc_ok (lt_of_get ha) hlim) .nil))))) ?_
    refine wb_S ?_
    refine hW (mput m r2 (j : Int)) _ _ ?_
    exact ⟨rfl, rfl⟩
  · rintro m fr h ⟨rfl, rfl⟩
    refine wr_seq ?_
    refine wr_region ?_
    refine wo_val (.bool (decide ((l.length : Int) < (l.length : Int)))) rfl (pv_bin rfl rfl rfl) ?_
    refine wo_nil ?_
    refine wr_seq ?_
    refine wr_condF rfl (Int.lt_irrefl _) ?_
    refine wr_exit rfl ?_
    refine wr_seq ?_
    refine wr_region ?_
    refine wo_val (.map (ix ids 0) g) rfl pv_move ?_
    refine wo_val (.map (ix ids 0) g) rfl pv_assign ?_
    refine wo_nil ?_
    exact wr_retM (a := m) (g := g) Try.func34 hI rfl rfl rfl

theorem cp_names_class (c : Class) : CP Try.prog 37 [(.agg (rClass c))] (names_class c) (fun (x : Str) => (AV.str x)) := by
  refine cp_intro (n := 5) 1 Try.func37 rfl (by decide) rfl rfl fun h0 ids hI => ?_
  refine wr_in (wr_mod (names_class.eq_1 _) ?_)
  refine wr_seq ?_
  refine wr_region ?_
  refine wo_box (v := (.agg (rClass c))) (j := 0) hI rfl rfl rfl rfl rfl rfl rfl fun g => ?_
  refine wo_val (.str []) rfl pv_assign ?_
  refine wo_nil ?_
  refine wr_hp [(some (.rows g 4 [(rClass c)]))] rfl ?_
  refine wr_seq ?_
  refine wr_region ?_
  refine wo_val (.ptr (ix ids 0) g 0 0) rfl (pv_fa (fa_ptr (c := 0) (off := 0) (i := 0) ti43 rfl ti9 rfl)) ?_
  refine wo_val (.str c.Name) rfl (pv_load (ld_ptr hI rfl rfl rfl ti9 rfl)) ?_
  refine wo_val (.str c.Name) rfl pv_assign ?_
  refine wo_nil ?_
  exact wr_ret (a := c.Name) (vs := [(.str c.Name)]) Try.func37 hI rfl (.same _)

theorem cpm_names_index_Class_class (l : (List Class)) : CPM Try.prog 36 [(.sl 4 (List.map rClass l)), (.func (.func 37) [] [])] (names_index_Class_class l) (fun x : Str => (AV.str x)) (fun x : Int => (AV.int .i64 x)) := by
  refine cpm_intro (n := 36) 1 Try.func36 rfl (by decide) rfl rfl fun h0 ids hI => ?_
  refine wr_in (wr_mod (names_index_Class_class.eq_1 _) ?_)
  refine wr_seq ?_
  refine wr_region ?_
  refine wo_val .mnil rfl pv_assign ?_
  refine wo_nil ?_
  refine wr_seq ?_
  refine wr_region ?_
  refine wo_makeMap (j := 0) hI rfl rfl rfl rfl fun g => ?_
  refine wo_val (.map (ix ids 0) g) rfl pv_assign ?_
  refine wo_nil ?_
  refine wr_hp [(some (.mp g (mE (fun x : Str => (AV.str x)) (fun x : Int => (AV.int .i64 x)) []))), none] rfl ?_
  refine wr_seq ?_
  refine wr_seq ?_
  refine wr_region ?_
  refine wo_val (.sl 4 (List.map rClass l)) rfl pv_move ?_
  refine wo_val (.int .i64 (l.length : Int)) rfl (pv_len (len_sl ti28)) ?_
  refine wo_val (.int .i64 0) rfl pv_move ?_
  refine wo_nil ?_
  refine wr_block ?_
  refine wr_is [(1, (.func (.func 37) [] [])), (5, (.map (ix ids 0) g)), (11, (.sl 4 (List.map rClass l))), (12, (.int .i64 (l.length : Int))), (13, (.int .i64 0))] (.cons rfl (.cons rfl (.cons rfl (.cons rfl (.cons rfl .nil))))) ?_
  refine wf_eachS' (P := Try.prog) l (fun j a => fun m => names_index_Class_class_b1 j a m) (((fun m => .ok m)) : (List (Str × Int)) → R (List (Str × Int)))
    (fun j => fun m => fun (fr : Nat → AV) (h : AHeap) => fr = frA [(1, (.func (.func 37) [] [])), (5, (.map (ix ids 0) g)), (11, (.sl 4 (List.map rClass l))), (12, (.int .i64 (l.length : Int))), (13, (.int .i64 (j : Int)))] ∧ h = hp h0 ids [(some (.mp g (mE (fun x : Str => (AV.str x)) (fun x : Int => (AV.int .i64 x)) m))), none]) [] ?_ ?_ ?_
  · exact ⟨rfl, rfl⟩
  · rintro j a ha W hW m fr h ⟨rfl, rfl⟩
    refine wr_mod (m' := names_index_Class_class_b1 j a m) rfl (wr_mod (names_index_Class_class_b1.eq_1 _ _ _) ?_)
    refine wr_seq ?_
    refine wr_region ?_
    refine wo_val (.bool (decide ((j : Int) < (l.length : Int)))) rfl (pv_bin rfl rfl rfl) ?_
    refine wo_nil ?_
    refine wr_seq ?_
    refine wr_lim (t := 11) (L := l) rfl fun hlim => ?_
    refine wr_condT rfl (Int.ofNat_lt.2 (lt_of_get ha)) ?_
    refine wr_skip ?_
    refine wr_seq ?_
    refine wr_block ?_
    refine wr_seq ?_
    refine wr_region ?_
    refine wo_val (.int .i64 (j : Int)) rfl pv_move ?_
    refine wo_val (.cp (rClass a) 0) rfl (pv_ixa (ixa_nat ti28 ti43 rfl ha)) ?_
    refine wo_val (.agg (rClass a)) rfl (pv_load (ld_cp ti43 rfl)) ?_
    refine wo_alloc (j := 1) hI rfl rfl rfl rfl ti43 rfl fun g1 => ?_
    refine wo_val (.int .i64 (j : Int)) rfl pv_assign ?_
    refine wo_store (st_ptr hI rfl rfl rfl rfl ti43 rfl rfl rfl rfl rfl) ?_
    refine wo_nil ?_
    refine wr_hp [(some (.mp g (mE (fun x : Str => (AV.str x)) (fun x : Int => (AV.int .i64 x)) m))), (some (.rows g1 4 [(rClass a)]))] rfl ?_
    refine wr_seq ?_
    refine wr_region ?_
    refine wo_val (.map (ix ids 0) g) rfl pv_move ?_
    refine wo_val (.func (.func 37) [] []) rfl pv_move ?_
    refine wo_val (.agg (rClass a)) rfl (pv_load (ld_ptr hI rfl rfl rfl ti43 rfl)) ?_
    refine of_call [(.agg (rClass a))] rfl rfl rfl rfl ((cp_names_class a) _) (fun v _ => wu_panM Try.func36 hI) fun r _ => ?_
    refine wo_val (.tup [(.int .i64 (Option.getD (mget m r) 0)), (.bool (Option.isSome (mget m r)))]) rfl (pv_look (look_map (eK := (fun x : Str => (AV.str x))) (eV := (fun x : Int => (AV.int .i64 x))) (zv := 0) (mapOf_at (hI.at rfl rfl)) ti70 ti9 ti3 keyE_str rfl).2) ?_
    refine wo_val (.tup [(.int .i64 (Option.getD (mget m r) 0)), (.bool (Option.isSome (mget m r)))]) rfl pv_move ?_
    refine wo_val (.int .i64 (Option.getD (mget m r) 0)) rfl (pv_ext rfl) ?_
    refine wo_val (.bool (Option.isSome (mget m r))) rfl (pv_ext rfl) ?_
    refine wo_val (.int .i64 (Option.getD (mget m r) 0)) rfl pv_assign ?_
    refine wo_val (.bool (Option.isSome (mget m r))) rfl pv_assign ?_
    refine wo_nil ?_
    refine wr_seq ?_
    refine wr_region ?_
    refine wo_val (.bool (Option.isSome (mget m r))) rfl pv_move ?_
    refine wo_val (.bool (!(Option.isSome (mget m r)))) rfl (pv_un rfl) ?_
    refine of_call [(.bool (!(Option.isSome (mget m r)))), (.int .i64 91)] rfl rfl rfl rfl ((cp_names_must (!(Option.isSome (mget m r))) 91) _) (fun v _ => wu_panM Try.func36 hI) fun _ _ => ?_
    refine wo_nil ?_
    refine wr_region ?_
    refine wo_val (.map (ix ids 0) g) rfl pv_move ?_
    refine wo_val (.func (.func 37) [] []) rfl pv_move ?_
    refine wo_val (.agg (rClass a)) rfl (pv_load (ld_ptr hI rfl rfl rfl ti43 rfl)) ?_
    refine of_call [(.agg (rClass a))] rfl rfl rfl rfl ((cp_names_class a) _) (fun v _ => wu_panM Try.func36 hI) fun r2 _ => ?_
    refine wo_val (.int .i64 (j : Int)) rfl pv_move ?_
    refine wo_mapUpdate (j := 0) (eK := (fun x : Str => (AV.str x))) (eV := (fun x : Int => (AV.int .i64 x))) (M := m) (ky := r2) (w := (j : Int)) hI rfl rfl rfl rfl rfl rfl ti70 ti9 keyE_str ?_
    refine wo_nil ?_
    refine wr_hp [(some (.mp g (mE (fun x : Str => (AV.str x)) (fun x : Int => (AV.int .i64 x)) (mput m r2 (j : Int))))), (some (.rows g1 4 [(rClass a)]))] rfl ?_
    refine wr_inBlock ?_
    refine wr_region ?_
    refine wo_val (.int .i64 (IntKind.wrap .i64 ((j : Int) + 1))) rfl (pv_bin rfl rfl rfl) ?_
    refine wo_val (.int .i64 (IntKind.wrap .i64 ((j : Int) + 1))) rfl pv_move ?_
    refine wo_nil ?_
    refine wr_drop [(some (.mp g (mE (fun x : Str => (AV.str x)) (fun x : Int => (AV.int .i64 x)) (mput m r2 (j : Int))))), none] hI rfl (.keep (.drop .nil)) ?_
    refine wr_is [(1, (.func (.func 37) [] [])), (5, (.map (ix ids 0) g)), (11, (.sl 4 (List.map rClass l))), (12, (.int .i64 (l.length : Int))), (13, (.int .i64 ((j + 1 : Nat) : Int)))] (.cons rfl (.cons rfl (.cons rfl (.cons rfl (.cons (inc_ok (lt_of_get ha) hlim) .nil))))) ?_
    refine wb_S ?_
    refine hW (mput m r2 (j : Int)) _ _ ?_
    exact ⟨rfl, rfl⟩
  · rintro m fr h ⟨rfl, rfl⟩
    refine wr_seq ?_
    refine wr_region ?_
    refine wo_val (.bool (decide ((l.length : Int) < (l.length : Int)))) rfl (pv_bin rfl rfl rfl) ?_
    refine wo_nil ?_
    refine wr_seq ?_
    refine wr_condF rfl (Int.lt_irrefl _) ?_
    refine wr_exit rfl ?_
    refine wr_seq ?_
    refine wr_region ?_
    refine wo_val (.map (ix ids 0) g) rfl pv_move ?_
    refine wo_val (.map (ix ids 0) g) rfl pv_assign ?_
    refine wo_nil ?_
    exact wr_retM (a := m) (g := g) Try.func36 hI rfl rfl rfl

theorem cp_names_Resolve_c6 (m : Mode) : CP Try.prog 39 [(.agg (rMode m))] (names_Resolve_c6 m) (fun (x : Str) => (AV.str x)) := by
  refine cp_intro (n := 5) 1 Try.func39 rfl (by decide) rfl rfl fun h0 ids hI => ?_
  refine wr_in (wr_mod (names_Resolve_c6.eq_1 _) ?_)
  refine wr_seq ?_
  refine wr_region ?_
  refine wo_box (v := (.agg (rMode m))) (j := 0) hI rfl rfl rfl rfl rfl rfl rfl fun g => ?_
  refine wo_val (.str []) rfl pv_assign ?_
  refine wo_nil ?_
  refine wr_hp [(some (.rows g 2 [(rMode m)]))] rfl ?_
  refine wr_seq ?_
  refine wr_region ?_
  refine wo_val (.ptr (ix ids 0) g 0 0) rfl (pv_fa (fa_ptr (c := 0) (off := 0) (i := 0) ti66 rfl ti9 rfl)) ?_
  refine wo_val (.str m.Name) rfl (pv_load (ld_ptr hI rfl rfl rfl ti9 rfl)) ?_
  refine wo_val (.str m.Name) rfl pv_assign ?_
  refine wo_nil ?_
  exact wr_ret (a := m.Name) (vs := [(.str m.Name)]) Try.func39 hI rfl (.same _)

theorem cpm_names_index_Mode_c6 (l : (List Mode)) : CPM Try.prog 38 [(.sl 2 (List.map rMode l)), (.func (.func 39) [] [])] (names_index_Mode_c6 l) (fun x : Str => (AV.str x)) (fun x : Int => (AV.int .i64 x)) := by
  refine cpm_intro (n := 36) 1 Try.func38 rfl (by decide) rfl rfl fun h0 ids hI => ?_
  refine wr_in (wr_mod (names_index_Mode_c6.eq_1 _) ?_)
  refine wr_seq ?_
  refine wr_region ?_
  refine wo_val .mnil rfl pv_assign ?_
  refine wo_nil ?_
  refine wr_seq ?_
  refine wr_region ?_
  refine wo_makeMap (j := 0) hI rfl rfl rfl rfl fun g => ?_
  refine wo_val (.map (ix ids 0) g) rfl pv_assign ?_
  refine wo_nil ?_
  refine wr_hp [(some (.mp g (mE (fun x : Str => (AV.str x)) (fun x : Int => (AV.int .i64 x)) []))), none] rfl ?_
  refine wr_seq ?_
  refine wr_seq ?_
  refine wr_region ?_
  refine wo_val (.sl 2 (List.map rMode l)) rfl pv_move ?_
  refine wo_val (.int .i64 (l.length : Int)) rfl (pv_len (len_sl ti44)) ?_
  refine wo_val (.int .i64 0) rfl pv_move ?_
  refine wo_nil ?_
  refine wr_block ?_
  refine wr_is [(1, (.func (.func 39) [] [])), (5, (.map (ix ids 0) g)), (11, (.sl 2 (List.map rMode l))), (12, (.int .i64 (l.length : Int))), (13, (.int .i64 0))] (.cons rfl (.cons rfl (.cons rfl (.cons rfl (.cons rfl .nil))))) ?_
  refine wf_eachS' (P := Try.prog) l (fun j a => fun m => names_index_Mode_c6_b1 j a m) (((fun m => .ok m)) : (List (Str × Int)) → R (List (Str × Int)))
    (fun j => fun m => fun (fr : Nat → AV) (h : AHeap) => fr = frA [(1, (.func (.func 39) [] [])), (5, (.map (ix ids 0) g)), (11, (.sl 2 (List.map rMode l))), (12, (.int .i64 (l.length : Int))), (13, (.int .i64 (j : Int)))] ∧ h = hp h0 ids [(some (.mp g (mE (fun x : Str => (AV.str x)) (fun x : Int => (AV.int .i64 x)) m))), none]) [] ?_ ?_ ?_
  · exact ⟨rfl, rfl⟩
  · rintro j a ha W hW m fr h ⟨rfl, rfl⟩
    refine wr_mod (m' := names_index_Mode_c6_b1 j a m) rfl (wr_mod (names_index_Mode_c6_b1.eq_1 _ _ _) ?_)
    refine wr_seq ?_
    refine wr_region ?_
    refine wo_val (.bool (decide ((j : Int) < (l.length : Int)))) rfl (pv_bin rfl rfl rfl) ?_
    refine wo_nil ?_
    refine wr_seq ?_
    refine wr_lim (t := 11) (L := l) rfl fun hlim => ?_
    refine wr_condT rfl (Int.ofNat_lt.2 (lt_of_get ha)) ?_
    refine wr_skip ?_
    refine wr_seq ?_
    refine wr_block ?_
    refine wr_seq ?_
    refine wr_region ?_
    refine wo_val (.int .i64 (j : Int)) rfl pv_move ?_
    refine wo_val (.cp (rMode a) 0) rfl (pv_ixa (ixa_nat ti44 ti66 rfl ha)) ?_
    refine wo_val (.agg (rMode a)) rfl (pv_load (ld_cp ti66 rfl)) ?_
    refine wo_alloc (j := 1) hI rfl rfl rfl rfl ti66 rfl fun g1 => ?_
    refine wo_val (.int .i64 (j : Int)) rfl pv_assign ?_
    refine wo_store (st_ptr hI rfl rfl rfl rfl ti66 rfl rfl rfl rfl rfl) ?_
    refine wo_nil ?_
    refine wr_hp [(some (.mp g (mE (fun x : Str => (AV.str x)) (fun x : Int => (AV.int .i64 x)) m))), (some (.rows g1 2 [(rMode a)]))] rfl ?_
    refine wr_seq ?_
    refine wr_region ?_
    refine wo_val (.map (ix ids 0) g) rfl pv_move ?_
    refine wo_val (.func (.func 39) [] []) rfl pv_move ?_
    refine wo_val (.agg (rMode a)) rfl (pv_load (ld_ptr hI rfl rfl rfl ti66 rfl)) ?_
    refine of_call [(.agg (rMode a))] rfl rfl rfl rfl ((cp_names_Resolve_c6 a) _) (fun v _ => wu_panM Try.func38 hI) fun r _ => ?_
    refine wo_val (.tup [(.int .i64 (Option.getD (mget m r) 0)), (.bool (Option.isSome (mget m r)))]) rfl (pv_look (look_map (eK := (fun x : Str => (AV.str x))) (eV := (fun x : Int => (AV.int .i64 x))) (zv := 0) (mapOf_at (hI.at rfl rfl)) ti70 ti9 ti3 keyE_str rfl).2) ?_
    refine wo_val (.tup [(.int .i64 (Option.getD (mget m r) 0)), (.bool (Option.isSome (mget m r)))]) rfl pv_move ?_
    refine wo_val (.int .i64 (Option.getD (mget m r) 0)) rfl (pv_ext rfl) ?_
    refine wo_val (.bool (Option.isSome (mget m r))) rfl (pv_ext rfl) ?_
    refine wo_val (.int .i64 (Option.getD (mget m r) 0)) rfl pv_assign ?_
    refine wo_val (.bool (Option.isSome (mget m r))) rfl pv_assign ?_
    refine wo_nil ?_
    refine wr_seq ?_
    refine wr_region ?_
    refine wo_val (.bool (Option.isSome (mget m r))) rfl pv_move ?_
    refine wo_val (.bool (!(Option.isSome (mget m r)))) rfl (pv_un rfl) ?_
    refine of_call [(.bool (!(Option.isSome (mget m r)))), (.int .i64 91)] rfl rfl rfl rfl ((cp_names_must (!(Option.isSome (mget m r))) 91) _) (fun v _ => wu_panM Try.func38 hI) fun _ _ => ?_
    refine wo_nil ?_
    refine wr_region ?_
    refine wo_val (.map (ix ids 0) g) rfl pv_move ?_
    refine wo_val (.func (.func 39) [] []) rfl pv_move ?_
    refine wo_val (.agg (rMode a)) rfl (pv_load (ld_ptr hI rfl rfl rfl ti66 rfl)) ?_
    refine of_call [(.agg (rMode a))] rfl rfl rfl rfl ((cp_names_Resolve_c6 a) _) (fun v _ => wu_panM Try.func38 hI) fun r2 _ => ?_
    refine wo_val (.int .i64 (j : Int)) rfl pv_move ?_
    refine wo_mapUpdate (j := 0) (eK := (fun x : Str => (AV.str x))) (eV := (fun x : Int => (AV.int .i64 x))) (M := m) (ky := r2) (w := (j : Int)) hI rfl rfl rfl rfl rfl rfl ti70 ti9 keyE_str ?_
    refine wo_nil ?_
    refine wr_hp [(some (.mp g (mE (fun x : Str => (AV.str x)) (fun x : Int => (AV.int .i64 x)) (mput m r2 (j : Int))))), (some (.rows g1 2 [(rMode a)]))] rfl ?_
    refine wr_inBlock ?_
    refine wr_region ?_
    refine wo_val (.int .i64 (IntKind.wrap .i64 ((j : Int) + 1))) rfl (pv_bin rfl rfl rfl) ?_
    refine wo_val (.int .i64 (IntKind.wrap .i64 ((j : Int) + 1))) rfl pv_move ?_
    refine wo_nil ?_
    refine wr_drop [(some (.mp g (mE (fun x : Str => (AV.str x)) (fun x : Int => (AV.int .i64 x)) (mput m r2 (j : Int))))), none] hI rfl (.keep (.drop .nil)) ?_
    refine wr_is [(1, (.func (.func 39) [] [])), (5, (.map (ix ids 0) g)), (11, (.sl 2 (List.map rMode l))), (12, (.int .i64 (l.length : Int))), (13, (.int .i64 ((j + 1 : Nat) : Int)))] (.cons rfl (.cons rfl (.cons rfl (.cons rfl (.cons (inc_ok (lt_of_get ha) hlim) .nil))))) ?_
    refine wb_S ?_
    refine hW (mput m r2 (j : Int)) _ _ ?_
    exact ⟨rfl, rfl⟩
  · rintro m fr h ⟨rfl, rfl⟩
    refine wr_seq ?_
    refine wr_region ?_
    refine wo_val (.bool (decide ((l.length : Int) < (l.length : Int)))) rfl (pv_bin rfl rfl rfl) ?_
    refine wo_nil ?_
    refine wr_seq ?_
    refine wr_condF rfl (Int.lt_irrefl _) ?_
    refine wr_exit rfl ?_
    refine wr_seq ?_
    refine wr_region ?_
    refine wo_val (.map (ix ids 0) g) rfl pv_move ?_
    refine wo_val (.map (ix ids 0) g) rfl pv_assign ?_
    refine wo_nil ?_
    exact wr_retM (a := m) (g := g) Try.func38 hI rfl rfl rfl

theorem cpo_slices_Clone_Sector (s : List Sector) : CPO Try.prog 40 [(.sl 5 (List.map rSector s))] (slices_Clone_Sector s) 5 rSector := by
  refine cpo_intro (n := 8) 0 Try.func40 rfl (by decide) rfl rfl fun h0 ids hI => ?_
  refine wr_eq (slices_Clone_Sector.eq_1 _) ?_
  refine wr_seq ?_
  refine wr_region ?_
  refine wo_val .emp rfl pv_assign ?_
  refine wo_nil ?_
  refine wr_seq ?_
  refine wr_seq ?_
  refine wr_region ?_
  refine wo_val (.sl 5 (List.map rSector s)) rfl pv_move ?_
  refine wo_nilc (L := s) rfl ti23 rfl fun c hc => ?_
  refine wo_nil ?_
  by_cases hl : s.length * 80 ≤ LIM
  case neg => rw [if_neg hl]; exact wr_bad
  rw [if_pos hl]
  refine wr_cond c rfl ?_
  cases c with
  | true =>
    have hs := hc rfl
    subst hs
    refine wr_seq ?_
    refine wr_region ?_
    refine wo_val .emp rfl pv_assign ?_
    refine wo_nil ?_
    exact wr_retO (a := []) (v := .emp) (g := 0) Try.func40 hI rfl rfl .nil rfl
  | false =>
    refine wr_skip ?_
    refine wr_seq ?_
    refine wr_region ?_
    refine wo_bs0 rfl ti23 ti53 ?_
    refine wo_val (.sl 5 (List.map rSector s)) rfl pv_move ?_
    refine wo_append (e := rSector) (L := []) (L2 := s) (v := .emp) (g := 0) (st := 5) (j := 0) hI rfl rfl rfl rfl .nil rfl (src_sl rfl) ti23 ti23 rfl ti53 rfl rfl rfl (by simpa using hl) fun v g H => ?_
    refine wo_val v rfl pv_assign ?_
    refine wo_nil ?_
    exact wr_retO (a := s) (v := v) (g := g) Try.func40 hI rfl rfl H rfl
theorem cp_slices_Clone_Sector (s : List Sector) : CP Try.prog 40 [(.sl 5 (List.map rSector s))] (slices_Clone_Sector s) (fun x => .sl 5 (List.map rSector x)) := (cpo_slices_Clone_Sector s).cp (fun x => ok_Sector x)

theorem cpo_slices_Clone_Config (s : List Config) : CPO Try.prog 41 [(.sl 3 (List.map rConfig s))] (slices_Clone_Config s) 3 rConfig := by
  refine cpo_intro (n := 8) 0 Try.func41 rfl (by decide) rfl rfl fun h0 ids hI => ?_
  refine wr_eq (slices_Clone_Config.eq_1 _) ?_
  refine wr_seq ?_
  refine wr_region ?_
  refine wo_val .emp rfl pv_assign ?_
  refine wo_nil ?_
  refine wr_seq ?_
  refine wr_seq ?_
  refine wr_region ?_
  refine wo_val (.sl 3 (List.map rConfig s)) rfl pv_move ?_
  refine wo_nilc (L := s) rfl ti24 rfl fun c hc => ?_
  refine wo_nil ?_
  by_cases hl : s.length * 64 ≤ LIM
  case neg => rw [if_neg hl]; exact wr_bad
  rw [if_pos hl]
  refine wr_cond c rfl ?_
  cases c with
  | true =>
    have hs := hc rfl
    subst hs
    refine wr_seq ?_
    refine wr_region ?_
    refine wo_val .emp rfl pv_assign ?_
    refine wo_nil ?_
    exact wr_retO (a := []) (v := .emp) (g := 0) Try.func41 hI rfl rfl .nil rfl
  | false =>
    refine wr_skip ?_
    refine wr_seq ?_
    refine wr_region ?_
    refine wo_bs0 rfl ti24 ti55 ?_
    refine wo_val (.sl 3 (List.map rConfig s)) rfl pv_move ?_
    refine wo_append (e := rConfig) (L := []) (L2 := s) (v := .emp) (g := 0) (st := 3) (j := 0) hI rfl rfl rfl rfl .nil rfl (src_sl rfl) ti24 ti24 rfl ti55 rfl rfl rfl (by simpa using hl) fun v g H => ?_
    refine wo_val v rfl pv_assign ?_
    refine wo_nil ?_
    exact wr_retO (a := s) (v := v) (g := g) Try.func41 hI rfl rfl H rfl
theorem cp_slices_Clone_Config (s : List Config) : CP Try.prog 41 [(.sl 3 (List.map rConfig s))] (slices_Clone_Config s) (fun x => .sl 3 (List.map rConfig x)) := (cpo_slices_Clone_Config s).cp (fun x => ok_Config x)

theorem cpo_slices_Clone_Segment (s : List Segment) : CPO Try.prog 42 [(.sl 5 (List.map rSegment s))] (slices_Clone_Segment s) 5 rSegment := by
  refine cpo_intro (n := 8) 0 Try.func42 rfl (by decide) rfl rfl fun h0 ids hI => ?_
  refine wr_eq (slices_Clone_Segment.eq_1 _) ?_
  refine wr_seq ?_
  refine wr_region ?_
  refine wo_val .emp rfl pv_assign ?_
  refine wo_nil ?_
  refine wr_seq ?_
  refine wr_seq ?_
  refine wr_region ?_
  refine wo_val (.sl 5 (List.map rSegment s)) rfl pv_move ?_
  refine wo_nilc (L := s) rfl ti25 rfl fun c hc => ?_
  refine wo_nil ?_
  by_cases hl : s.length * 72 ≤ LIM
  case neg => rw [if_neg hl]; exact wr_bad
  rw [if_pos hl]
  refine wr_cond c rfl ?_
  cases c with
  | true =>
    have hs := hc rfl
    subst hs
    refine wr_seq ?_
    refine wr_region ?_
    refine wo_val .emp rfl pv_assign ?_
    refine wo_nil ?_
    exact wr_retO (a := []) (v := .emp) (g := 0) Try.func42 hI rfl rfl .nil rfl
  | false =>
    refine wr_skip ?_
    refine wr_seq ?_
    refine wr_region ?_
    refine wo_bs0 rfl ti25 ti57 ?_
    refine wo_val (.sl 5 (List.map rSegment s)) rfl pv_move ?_
    refine wo_append (e := rSegment) (L := []) (L2 := s) (v := .emp) (g := 0) (st := 5) (j := 0) hI rfl rfl rfl rfl .nil rfl (src_sl rfl) ti25 ti25 rfl ti57 rfl rfl rfl (by simpa using hl) fun v g H => ?_
    refine wo_val v rfl pv_assign ?_
    refine wo_nil ?_
    exact wr_retO (a := s) (v := v) (g := g) Try.func42 hI rfl rfl H rfl
theorem cp_slices_Clone_Segment (s : List Segment) : CP Try.prog 42 [(.sl 5 (List.map rSegment s))] (slices_Clone_Segment s) (fun x => .sl 5 (List.map rSegment x)) := (cpo_slices_Clone_Segment s).cp (fun x => ok_Segment x)

theorem cpo_slices_Clone_Route (s : List Route) : CPO Try.prog 43 [(.sl 7 (List.map rRoute s))] (slices_Clone_Route s) 7 rRoute := by
  refine cpo_intro (n := 8) 0 Try.func43 rfl (by decide) rfl rfl fun h0 ids hI => ?_
  refine wr_eq (slices_Clone_Route.eq_1 _) ?_
  refine wr_seq ?_
  refine wr_region ?_
  refine wo_val .emp rfl pv_assign ?_
  refine wo_nil ?_
  refine wr_seq ?_
  refine wr_seq ?_
  refine wr_region ?_
  refine wo_val (.sl 7 (List.map rRoute s)) rfl pv_move ?_
  refine wo_nilc (L := s) rfl ti26 rfl fun c hc => ?_
  refine wo_nil ?_
  by_cases hl : s.length * 112 ≤ LIM
  case neg => rw [if_neg hl]; exact wr_bad
  rw [if_pos hl]
  refine wr_cond c rfl ?_
  cases c with
  | true =>
    have hs := hc rfl
    subst hs
    refine wr_seq ?_
    refine wr_region ?_
    refine wo_val .emp rfl pv_assign ?_
    refine wo_nil ?_
    exact wr_retO (a := []) (v := .emp) (g := 0) Try.func43 hI rfl rfl .nil rfl
  | false =>
    refine wr_skip ?_
    refine wr_seq ?_
    refine wr_region ?_
    refine wo_bs0 rfl ti26 ti59 ?_
    refine wo_val (.sl 7 (List.map rRoute s)) rfl pv_move ?_
    refine wo_append (e := rRoute) (L := []) (L2 := s) (v := .emp) (g := 0) (st := 7) (j := 0) hI rfl rfl rfl rfl .nil rfl (src_sl rfl) ti26 ti26 rfl ti59 rfl rfl rfl (by simpa using hl) fun v g H => ?_
    refine wo_val v rfl pv_assign ?_
    refine wo_nil ?_
    exact wr_retO (a := s) (v := v) (g := g) Try.func43 hI rfl rfl H rfl
theorem cp_slices_Clone_Route (s : List Route) : CP Try.prog 43 [(.sl 7 (List.map rRoute s))] (slices_Clone_Route s) (fun x => .sl 7 (List.map rRoute x)) := (cpo_slices_Clone_Route s).cp (fun x => ok_Route x)

theorem cpo_slices_Clone_Rule (s : List Rule) : CPO Try.prog 44 [(.sl 8 (List.map rRule s))] (slices_Clone_Rule s) 8 rRule := by
  refine cpo_intro (n := 8) 0 Try.func44 rfl (by decide) rfl rfl fun h0 ids hI => ?_
  refine wr_eq (slices_Clone_Rule.eq_1 _) ?_
  refine wr_seq ?_
  refine wr_region ?_
  refine wo_val .emp rfl pv_assign ?_
  refine wo_nil ?_
  refine wr_seq ?_
  refine wr_seq ?_
  refine wr_region ?_
  refine wo_val (.sl 8 (List.map rRule s)) rfl pv_move ?_
  refine wo_nilc (L := s) rfl ti29 rfl fun c hc => ?_
  refine wo_nil ?_
  by_cases hl : s.length * 80 ≤ LIM
  case neg => rw [if_neg hl]; exact wr_bad
  rw [if_pos hl]
  refine wr_cond c rfl ?_
  cases c with
  | true =>
    have hs := hc rfl
    subst hs
    refine wr_seq ?_
    refine wr_region ?_
    refine wo_val .emp rfl pv_assign ?_
    refine wo_nil ?_
    exact wr_retO (a := []) (v := .emp) (g := 0) Try.func44 hI rfl rfl .nil rfl
  | false =>
    refine wr_skip ?_
    refine wr_seq ?_
    refine wr_region ?_
    refine wo_bs0 rfl ti29 ti63 ?_
    refine wo_val (.sl 8 (List.map rRule s)) rfl pv_move ?_
    refine wo_append (e := rRule) (L := []) (L2 := s) (v := .emp) (g := 0) (st := 8) (j := 0) hI rfl rfl rfl rfl .nil rfl (src_sl rfl) ti29 ti29 rfl ti63 rfl rfl rfl (by simpa using hl) fun v g H => ?_
    refine wo_val v rfl pv_assign ?_
    refine wo_nil ?_
    exact wr_retO (a := s) (v := v) (g := g) Try.func44 hI rfl rfl H rfl
theorem cp_slices_Clone_Rule (s : List Rule) : CP Try.prog 44 [(.sl 8 (List.map rRule s))] (slices_Clone_Rule s) (fun x => .sl 8 (List.map rRule x)) := (cpo_slices_Clone_Rule s).cp (fun x => ok_Rule x)

theorem cp_names_numbers_of (n : (List (Str × Int))) (name : Str) (o g : Nat) (h0 : AHeap) (vHm : h0 o = some (.mp g (mE (fun x : Str => (AV.str x)) (fun x : Int => (AV.int .i64 x)) n))) : names_numbers_of n name ≠ .bad → ACalls Try.prog 46 [(.map o g), (.str name)] h0 (AnsR (fun (x : Int) => (AV.int .i64 x)) h0 (names_numbers_of n name)) := by
  refine cph_intro (n := 16) 0 Try.func46 rfl (by decide) rfl rfl fun ids hI => ?_
  refine wr_in (wr_mod (names_numbers_of.eq_1 _ _) ?_)
  refine wr_seq ?_
  refine wr_region ?_
  refine wo_val (.int .i64 0) rfl pv_assign ?_
  refine wo_nil ?_
  refine wr_seq ?_
  refine wr_region ?_
  refine wo_val (.map o g) rfl pv_move ?_
  refine wo_val (.str name) rfl pv_move ?_
  refine wo_val (.tup [(.int .i64 (Option.getD (mget n name) 0)), (.bool (Option.isSome (mget n name)))]) rfl (pv_look (look_map (eK := (fun x : Str => (AV.str x))) (eV := (fun x : Int => (AV.int .i64 x))) (zv := 0) (mapOf_at (hI.for' vHm)) ti70 ti9 ti3 keyE_str rfl).2) ?_
  refine wo_val (.tup [(.int .i64 (Option.getD (mget n name) 0)), (.bool (Option.isSome (mget n name)))]) rfl pv_move ?_
  refine wo_val (.int .i64 (Option.getD (mget n name) 0)) rfl (pv_ext rfl) ?_
  refine wo_val (.bool (Option.isSome (mget n name))) rfl (pv_ext rfl) ?_
  refine wo_val (.int .i64 (Option.getD (mget n name) 0)) rfl pv_assign ?_
  refine wo_val (.bool (Option.isSome (mget n name))) rfl pv_assign ?_
  refine wo_nil ?_
  refine wr_seq ?_
  refine wr_region ?_
  refine wo_val (.bool (Option.isSome (mget n name))) rfl pv_move ?_
  refine of_call [(.bool (Option.isSome (mget n name))), (.int .i64 90)] rfl rfl rfl rfl ((cp_names_must (Option.isSome (mget n name)) 90) _) (fun v _ => wu_pan Try.func46 hI) fun _ _ => ?_
  refine wo_nil ?_
  refine wr_seq ?_
  refine wr_region ?_
  refine wo_val (.int .i64 (Option.getD (mget n name) 0)) rfl pv_move ?_
  refine wo_val (.int .i64 (Option.getD (mget n name) 0)) rfl pv_assign ?_
  refine wo_nil ?_
  exact wr_ret (a := (Option.getD (mget n name) 0)) (vs := [(.int .i64 (Option.getD (mget n name) 0))]) Try.func46 hI rfl (.same _)

theorem cp_names_numbers_all (n : (List (Str × Int))) (l : (List Str)) (o g : Nat) (h0 : AHeap) (vHm : h0 o = some (.mp g (mE (fun x : Str => (AV.str x)) (fun x : Int => (AV.int .i64 x)) n))) : names_numbers_all n l ≠ .bad → ACalls Try.prog 45 [(.map o g), (.sl 1 (List.map rS l))] h0 (AnsR (fun (x : (List Int)) => (AV.sl 1 (List.map (rI .i64) x))) h0 (names_numbers_all n l)) := by
  refine cph_intro (n := 21) 1 Try.func45 rfl (by decide) rfl rfl fun ids hI => ?_
  refine wr_in (wr_mod (names_numbers_all.eq_1 _ _) ?_)
  refine wr_seq ?_
  refine wr_region ?_
  refine wo_val .emp rfl pv_assign ?_
  refine wo_nil ?_
  refine wr_seq ?_
  refine wr_seq ?_
  refine wr_region ?_
  refine wo_val (.sl 1 (List.map rS l)) rfl pv_move ?_
  refine wo_val (.int .i64 (l.length : Int)) rfl (pv_len (len_sl ti38)) ?_
  refine wo_val (.int .i64 0) rfl pv_move ?_
  refine wo_nil ?_
  refine wr_block ?_
  refine wr_is [(0, (.map o g)), (4, .emp), (7, (.sl 1 (List.map rS l))), (8, (.int .i64 (l.length : Int))), (9, (.int .i64 0))] (.cons rfl (.cons rfl (.cons rfl (.cons rfl (.cons rfl .nil))))) ?_
  refine wf_eachS' (P := Try.prog) l (fun _ a => fun x1 => names_numbers_all_b1 n a x1) (((fun x1 => .ok x1)) : (List Int) → R (List Int))
    (fun j => fun x1 => fun (fr : Nat → AV) (h : AHeap) => ∃ (v : AV), ∃ (g1 : Nat), OwnV v (ix ids 0) g1 x1.length ∧ fr = frA [(0, (.map o g)), (4, v), (7, (.sl 1 (List.map rS l))), (8, (.int .i64 (l.length : Int))), (9, (.int .i64 (j : Int)))] ∧ h = hp h0 ids [(ownO v g1 1 (List.map (rI .i64) x1))]) [] ?_ ?_ ?_
  · exact ⟨.emp, 0, .nil, rfl, rfl⟩
  · rintro j a ha W hW x1 fr h ⟨v, g1, vH, rfl, rfl⟩
    refine wr_mod (m' := names_numbers_all_b1 n a x1) rfl (wr_mod (names_numbers_all_b1.eq_1 _ _ _) ?_)
    refine wr_seq ?_
    refine wr_region ?_
    refine wo_val (.bool (decide ((j : Int) < (l.length : Int)))) rfl (pv_bin rfl rfl rfl) ?_
    refine wo_nil ?_
    refine wr_seq ?_
    refine wr_lim (t := 7) (L := l) rfl fun hlim => ?_
    refine wr_condT rfl (Int.ofNat_lt.2 (lt_of_get ha)) ?_
    refine wr_skip ?_
    refine wr_seq ?_
    refine wr_block ?_
    refine wr_seq ?_
    refine wr_region ?_
    refine wo_val (.cp [(.str a)] 0) rfl (pv_ixa (ixa_nat ti38 ti9 rfl ha)) ?_
    refine wo_val (.str a) rfl (pv_load (ld_cp ti9 rfl)) ?_
    refine wo_val (.str a) rfl pv_assign ?_
    refine wo_nil ?_
    refine wr_region ?_
    refine wo_val v rfl pv_move ?_
    refine wo_val (.map o g) rfl pv_move ?_
    refine wo_val (.str a) rfl pv_move ?_
    refine of_call [(.map o g), (.str a)] rfl rfl rfl rfl ((cp_names_numbers_of n a o g) _ (hI.for' vHm)) (fun v _ => wu_pan Try.func45 hI) fun r _ => ?_
    refine wo_bsC (e := (rI .i64)) (L := [r]) (st := 1) (rows := [[(.int .i64 r)]]) rfl ti51 ti3 rfl rfl rfl rfl rfl (.cons (RowSim.refl _) .nil) (fun x => ok_I x) rfl rfl ?_
    refine of_need fun hl => ?_
    refine wo_append (e := (rI .i64)) (L := x1) (L2 := [r]) (v := v) (g := g1) (st := 1) (j := 0) hI rfl rfl rfl rfl vH rfl (src_sl rfl) ti51 ti51 rfl ti3 rfl rfl rfl hl fun v1 g2 vH1 => ?_
    refine wo_val v1 rfl pv_assign ?_
    refine wo_nil ?_
    refine wr_hp [(ownO v1 g2 1 (List.map (rI .i64) (x1 ++ [r])))] rfl ?_
    refine wr_inBlock ?_
    refine wr_region ?_
    refine wo_val (.int .i64 (IntKind.wrap .i64 ((j : Int) + 1))) rfl (pv_bin rfl rfl rfl) ?_
    refine wo_val (.int .i64 (IntKind.wrap .i64 ((j : Int) + 1))) rfl pv_move ?_
    refine wo_nil ?_
    refine wr_is [(0, (.map o g)), (4, v1), (7, (.sl 1 (List.map rS l))), (8, (.int .i64 (l.length : Int))), (9, (.int .i64 ((j + 1 : Nat) : Int)))] (.cons rfl (.cons rfl (.cons rfl (.cons rfl (.cons (inc_ok (lt_of_get ha) hlim) .nil))))) ?_
    refine wb_S ?_
    refine hW (x1 ++ [r]) _ _ ?_
    exact ⟨v1, g2, vH1, rfl, rfl⟩
  · rintro x1 fr h ⟨v, g1, vH, rfl, rfl⟩
    refine wr_seq ?_
    refine wr_region ?_
    refine wo_val (.bool (decide ((l.length : Int) < (l.length : Int)))) rfl (pv_bin rfl rfl rfl) ?_
    refine wo_nil ?_
    refine wr_seq ?_
    refine wr_condF rfl (Int.lt_irrefl _) ?_
    refine wr_exit rfl ?_
    refine wr_seq ?_
    refine wr_region ?_
    refine wo_val v rfl pv_move ?_
    refine wo_val v rfl pv_assign ?_
    refine wo_nil ?_
    exact wr_ret (a := x1) (vs := [v]) Try.func45 hI rfl (own_fz vH (hI.at rfl rfl) (hI.out rfl) (fun x => ok_I x))

theorem cdr_names_Resolve_c1 (a0 : AV) (a1 : AV) (h : AHeap) : ADefer Try.prog 23 [a0, a1] .ret h (DAns (fun _ : Unit => h) .ret (.ok ())) := by
  refine cd_intro (n := 9) Try.func23 rfl (by decide) rfl rfl ?_ ⟨(), rfl⟩
  refine wr_seq ?_
  refine wr_region ?_
  refine wo_recR rfl ?_
  refine wo_val .nili rfl pv_assign ?_
  refine wo_nil ?_
  refine wr_seq ?_
  refine wr_region ?_
  refine wo_val .nili rfl pv_move ?_
  refine wo_val (.bool false) rfl (pv_bin rfl rfl (bin_nnn ti20)) ?_
  refine wo_nil ?_
  refine wr_cond false rfl ?_
  refine wr_skip ?_
  exact wr_endD Try.func23 rfl rfl rfl

theorem cdp_names_Resolve_c1_h34 (n : Int) (h0 : AHeap) (ids : List Nat) (hI : Ids h0 ids 2) (g0_ : Nat) (g1_ : Nat) (r0_ : List AV) (r1_ : List AV) (hr0_ : r0_.length = 8) (hr1_ : r1_.length = 1) : (∃ a, names_Resolve_c1_h34 n = .ok a) → ADefer Try.prog 23 [(.ptr (ix ids 0) g0_ 0 0), (.ptr (ix ids 1) g1_ 0 0)] (.pan (.iface 34 (.int .i64 n)) false) (hp h0 ids [some (.rows g0_ 8 [r0_]), some (.rows g1_ 1 [r1_])]) (DAns (fun p => hp h0 ids [some (.rows g0_ 8 [[.emp, .emp, .emp, .emp, .emp, .emp, .emp, .emp]]), some (.rows g1_ 1 [[(.int .i64 p)]])]) (.pan (.iface 34 (.int .i64 n)) true) (names_Resolve_c1_h34 n)) := by
  refine cd_intro (n := 9) Try.func23 rfl (by decide) rfl rfl ?_
  refine wr_in (wr_mod (names_Resolve_c1_h34.eq_1 _) ?_)
  refine wr_seq ?_
  refine wr_region ?_
  refine wo_recP rfl ?_
  refine wo_val (.iface 34 (.int .i64 n)) rfl pv_assign ?_
  refine wo_nil ?_
  refine wr_seq ?_
  refine wr_region ?_
  refine wo_val (.iface 34 (.int .i64 n)) rfl pv_move ?_
  refine wo_val (.bool true) rfl (pv_bin rfl rfl (bin_ifnn ti20)) ?_
  refine wo_nil ?_
  refine wr_cond true rfl ?_
  refine wr_draw hmix [[], [], [1], [0, 0], [0, 1, 2, 2, 3, 3]] [(false, 0), (false, 1), (false, 2), (true, 3), (true, 4)] (by kernel_rfl) ?_
  refine wp_val (.agg [.emp, .emp, .emp, .emp, .emp, .emp, .emp, .emp]) rfl rfl (pv_build (bd_st ti31 pl31 rfl)) ?_
  refine wp_val (.iface 34 (.int .i64 n)) rfl rfl pv_move ?_
  refine wp_val (.int .i64 n) rfl rfl (pv_as (as_ok ti34 (by decide))) ?_
  refine wp_op0 rfl (fun _ _ => rfl) (fun K hK => eff_store (st_ptrA hI rfl rfl rfl ti31 rfl rfl rfl hr0_ rfl) (hK _ _ (pend_no rfl (pv_as (as_ok ti34 (by decide))) (pend_no rfl pv_move (pend_yes rfl pend_nil))) ?_)) 
  clear hK K
  refine wp_op0 rfl (fun _ _ => rfl) (fun K hK => eff_store (st_ptrA hI rfl rfl rfl ti34 rfl rfl rfl hr1_ rfl) (hK _ _ (pend_yes rfl (pend_yes rfl (pend_yes rfl pend_nil))) ?_)) 
  clear hK K
  refine wp_nil ?_
  refine wr_hp [(some (.rows g0_ 8 [[.emp, .emp, .emp, .emp, .emp, .emp, .emp, .emp]])), (some (.rows g1_ 1 [[(.int .i64 n)]]))] rfl ?_
  exact wr_endD (a := n) Try.func23 rfl rfl rfl

theorem cp_names_Resolve (a : Airspace) : CP Try.prog 12 [(.agg (rAirspace a))] (names_Resolve a) (fun (p : (Airspace × Int)) => AV.tup [(.agg (rAirspace p.1)), (.int .i64 p.2)]) := by
  show CP _ _ _ ((names_Resolve_m a).catch' (catchI 34 .i64 (fun n => (names_Resolve_c1_h34 n).bind fun p => .ok (({ Volumes := [], Sectors := [], Configs := [], Segments := [], Routes := [], Airports := [], Classes := [], Rules := [] } : Airspace), p)) (fun _ => .bad))) _
  refine cpc_intro (n := 205) 20 Try.func12 rfl (by decide) rfl rfl fun h0 ids hI => ?_
  have hU : ∀ (v : PV) (fr : Nat → AV) (xs : List (Option AO)) (g0_ : Nat) (r0_ : List AV) (g1_ : Nat) (r1_ : List AV) (hl_ : xs.length = 20) (hr0_ : r0_.length = 8) (hr1_ : r1_.length = 1) (hy_ : xs.take 2 = [some (.rows g0_ 8 [r0_]), some (.rows g1_ 1 [r1_])]) (hq2_ : fr 2 = .ptr (ix ids 0) g0_ 0 0) (hq3_ : fr 3 = .ptr (ix ids 1) g1_ 0 0), WU Try.prog 12 205 false (SpecC (fun (p : (Airspace × Int)) => AV.tup [(.agg (rAirspace p.1)), (.int .i64 p.2)]) h0 (catchI 34 .i64 (fun n => (names_Resolve_c1_h34 n).bind fun p => .ok (({ Volumes := [], Sectors := [], Configs := [], Segments := [], Routes := [], Airports := [], Classes := [], Rules := [] } : Airspace), p)) (fun _ => .bad))) (.pan v) (.pan v.av false) fr [⟨23, [.ptr (ix ids 0) g0_ 0 0, .ptr (ix ids 1) g1_ 0 0]⟩] (hp h0 ids xs) .ret := by
    intro v fr xs g0_ r0_ g1_ r1_ hl_ hr0_ hr1_ hy_ hq2_ hq3_
    refine wu_hI (t := 34) (k := .i64) rfl (fun n hv => ?_) (fun hne34 => ?_)
    · subst hv
      exact wu_catch (Hc := names_Resolve_c1_h34 n) (fin := fun p => (({ Volumes := [], Sectors := [], Configs := [], Segments := [], Routes := [], Airports := [], Classes := [], Rules := [] } : Airspace), p)) (c := 2) (cells := fun p => [some (.rows g0_ 8 [[.emp, .emp, .emp, .emp, .emp, .emp, .emp, .emp]]), some (.rows g1_ 1 [[(.int .i64 p)]])]) (vs := fun p => [(.agg [.emp, .emp, .emp, .emp, .emp, .emp, .emp, .emp]), (.int .i64 p)]) Try.func12 hI hl_ rfl hy_ (by first | (rw [catchI_eq]; done) | (rw [catchI_eq]; rfl)) (fun hx => by have := cdp_names_Resolve_c1_h34 n h0 (ids.take 2) (hI.take rfl) g0_ g1_ r0_ r1_ hr0_ hr1_ hx; simp only [ix_take (c := 2) (j := 0) rfl, ix_take (c := 2) (j := 1) rfl] at this; exact this) (by intro w; simp [names_Resolve_c1_h34]) (fun p => (ares_cell' hq2_ (ld_ptr' (hI.take rfl) (ix_take rfl) rfl rfl rfl ti31 rfl) (ares_cell' hq3_ (ld_ptr' (hI.take rfl) (ix_take rfl) rfl rfl rfl ti34 rfl) ares_nil))) (fun p => (.tupL (.cons (.aggL (.cons (.emp _) (.cons (.emp _) (.cons (.emp _) (.cons (.emp _) (.cons (.emp _) (.cons (.emp _) (.cons (.emp _) (.cons (.emp _) .nil))))))))) (.cons (.same _) .nil))))
    exact wu_hN (by rw [catchI_ne hne34])
  refine wr_in (wr_mod (names_Resolve_m.eq_1 _) ?_)
  refine wr_seq ?_
  refine wr_region ?_
  refine wo_box (v := (.agg (rAirspace a))) (j := 2) hI rfl rfl rfl rfl rfl rfl rfl fun g => ?_
  refine wo_alloc (j := 0) hI rfl rfl rfl rfl ti31 rfl fun g1 => ?_
  refine wo_alloc (j := 1) hI rfl rfl rfl rfl ti34 rfl fun g2 => ?_
  refine wo_nil ?_
  refine wr_hp [(some (.rows g1 8 [[.emp, .emp, .emp, .emp, .emp, .emp, .emp, .emp]])), (some (.rows g2 1 [[(.int .i64 0)]])), (some (.rows g 8 [(rAirspace a)])), none, none, none, none, none, none, none, none, none, none, none, none, none, none, none, none, none] rfl ?_
  refine wr_seq ?_
  refine wr_region ?_
  refine wo_val (.func (.func 23) [] [(.ptr (ix ids 0) g1 0 0), (.ptr (ix ids 1) g2 0 0)]) rfl pv_func ?_
  refine wo_defer rfl rfl rfl ?_
  refine wo_nil ?_
  refine wr_seq ?_
  refine wr_region ?_
  refine wo_val (.ptr (ix ids 2) g 0 0) rfl (pv_fa (fa_ptr (c := 0) (off := 0) (i := 0) ti31 rfl ti22 rfl)) ?_
  refine wo_val (.sl 2 (List.map rVolume a.Volumes)) rfl (pv_load (ld_ptr hI rfl rfl rfl ti22 rfl)) ?_
  refine of_callM (j := 3) [(.sl 2 (List.map rVolume a.Volumes)), (.func (.func 25) [] [])] hI rfl rfl rfl rfl rfl rfl ((cpm_names_index_Volume_volume a.Volumes) _ _ (hI.at rfl rfl)) (fun v _ => hU v _ _ _ _ _ _ rfl rfl rfl rfl rfl rfl) fun r _ g3 => ?_
  refine wo_val (.map (ix ids 3) g3) rfl pv_assign ?_
  refine wo_nil ?_
  refine wr_hp [(some (.rows g1 8 [[.emp, .emp, .emp, .emp, .emp, .emp, .emp, .emp]])), (some (.rows g2 1 [[(.int .i64 0)]])), (some (.rows g 8 [(rAirspace a)])), (some (.mp g3 (mE (fun x : Str => (AV.str x)) (fun x : Int => (AV.int .i64 x)) r))), none, none, none, none, none, none, none, none, none, none, none, none, none, none, none, none] rfl ?_
  refine wr_seq ?_
  refine wr_region ?_
  refine wo_val (.ptr (ix ids 2) g 0 1) rfl (pv_fa (fa_ptr (c := 0) (off := 1) (i := 1) ti31 rfl ti23 rfl)) ?_
  refine wo_val (.sl 5 (List.map rSector a.Sectors)) rfl (pv_load (ld_ptr hI rfl rfl rfl ti23 rfl)) ?_
  refine of_callM (j := 4) [(.sl 5 (List.map rSector a.Sectors)), (.func (.func 27) [] [])] hI rfl rfl rfl rfl rfl rfl ((cpm_names_index_Sector_c2 a.Sectors) _ _ (hI.at rfl rfl)) (fun v _ => hU v _ _ _ _ _ _ rfl rfl rfl rfl rfl rfl) fun r1 _ g4 => ?_
  refine wo_val (.map (ix ids 4) g4) rfl pv_assign ?_
  refine wo_nil ?_
  refine wr_hp [(some (.rows g1 8 [[.emp, .emp, .emp, .emp, .emp, .emp, .emp, .emp]])), (some (.rows g2 1 [[(.int .i64 0)]])), (some (.rows g 8 [(rAirspace a)])), (some (.mp g3 (mE (fun x : Str => (AV.str x)) (fun x : Int => (AV.int .i64 x)) r))), (some (.mp g4 (mE (fun x : Str => (AV.str x)) (fun x : Int => (AV.int .i64 x)) r1))), none, none, none, none, none, none, none, none, none, none, none, none, none, none, none] rfl ?_
  refine wr_seq ?_
  refine wr_region ?_
  refine wo_val (.ptr (ix ids 2) g 0 2) rfl (pv_fa (fa_ptr (c := 0) (off := 2) (i := 2) ti31 rfl ti24 rfl)) ?_
  refine wo_val (.sl 3 (List.map rConfig a.Configs)) rfl (pv_load (ld_ptr hI rfl rfl rfl ti24 rfl)) ?_
  refine of_callM (j := 5) [(.sl 3 (List.map rConfig a.Configs)), (.func (.func 29) [] [])] hI rfl rfl rfl rfl rfl rfl ((cpm_names_index_Config_c3 a.Configs) _ _ (hI.at rfl rfl)) (fun v _ => hU v _ _ _ _ _ _ rfl rfl rfl rfl rfl rfl) fun r2 _ g5 => ?_
  refine wo_nil ?_
  refine wr_hp [(some (.rows g1 8 [[.emp, .emp, .emp, .emp, .emp, .emp, .emp, .emp]])), (some (.rows g2 1 [[(.int .i64 0)]])), (some (.rows g 8 [(rAirspace a)])), (some (.mp g3 (mE (fun x : Str => (AV.str x)) (fun x : Int => (AV.int .i64 x)) r))), (some (.mp g4 (mE (fun x : Str => (AV.str x)) (fun x : Int => (AV.int .i64 x)) r1))), (some (.mp g5 (mE (fun x : Str => (AV.str x)) (fun x : Int => (AV.int .i64 x)) r2))), none, none, none, none, none, none, none, none, none, none, none, none, none, none] rfl ?_
  refine wr_seq ?_
  refine wr_region ?_
  refine wo_val (.ptr (ix ids 2) g 0 3) rfl (pv_fa (fa_ptr (c := 0) (off := 3) (i := 3) ti31 rfl ti25 rfl)) ?_
  refine wo_val (.sl 5 (List.map rSegment a.Segments)) rfl (pv_load (ld_ptr hI rfl rfl rfl ti25 rfl)) ?_
  refine of_callM (j := 6) [(.sl 5 (List.map rSegment a.Segments)), (.func (.func 31) [] [])] hI rfl rfl rfl rfl rfl rfl ((cpm_names_index_Segment_c4 a.Segments) _ _ (hI.at rfl rfl)) (fun v _ => hU v _ _ _ _ _ _ rfl rfl rfl rfl rfl rfl) fun r3 _ g6 => ?_
  refine wo_val (.map (ix ids 6) g6) rfl pv_assign ?_
  refine wo_nil ?_
  refine wr_hp [(some (.rows g1 8 [[.emp, .emp, .emp, .emp, .emp, .emp, .emp, .emp]])), (some (.rows g2 1 [[(.int .i64 0)]])), (some (.rows g 8 [(rAirspace a)])), (some (.mp g3 (mE (fun x : Str => (AV.str x)) (fun x : Int => (AV.int .i64 x)) r))), (some (.mp g4 (mE (fun x : Str => (AV.str x)) (fun x : Int => (AV.int .i64 x)) r1))), (some (.mp g5 (mE (fun x : Str => (AV.str x)) (fun x : Int => (AV.int .i64 x)) r2))), (some (.mp g6 (mE (fun x : Str => (AV.str x)) (fun x : Int => (AV.int .i64 x)) r3))), none, none, none, none, none, none, none, none, none, none, none, none, none] rfl ?_
  refine wr_seq ?_
  refine wr_region ?_
  refine wo_val (.ptr (ix ids 2) g 0 4) rfl (pv_fa (fa_ptr (c := 0) (off := 4) (i := 4) ti31 rfl ti26 rfl)) ?_
  refine wo_val (.sl 7 (List.map rRoute a.Routes)) rfl (pv_load (ld_ptr hI rfl rfl rfl ti26 rfl)) ?_
  refine of_callM (j := 7) [(.sl 7 (List.map rRoute a.Routes)), (.func (.func 33) [] [])] hI rfl rfl rfl rfl rfl rfl ((cpm_names_index_Route_c5 a.Routes) _ _ (hI.at rfl rfl)) (fun v _ => hU v _ _ _ _ _ _ rfl rfl rfl rfl rfl rfl) fun r4 _ g7 => ?_
  refine wo_nil ?_
  refine wr_hp [(some (.rows g1 8 [[.emp, .emp, .emp, .emp, .emp, .emp, .emp, .emp]])), (some (.rows g2 1 [[(.int .i64 0)]])), (some (.rows g 8 [(rAirspace a)])), (some (.mp g3 (mE (fun x : Str => (AV.str x)) (fun x : Int => (AV.int .i64 x)) r))), (some (.mp g4 (mE (fun x : Str => (AV.str x)) (fun x : Int => (AV.int .i64 x)) r1))), (some (.mp g5 (mE (fun x : Str => (AV.str x)) (fun x : Int => (AV.int .i64 x)) r2))), (some (.mp g6 (mE (fun x : Str => (AV.str x)) (fun x : Int => (AV.int .i64 x)) r3))), (some (.mp g7 (mE (fun x : Str => (AV.str x)) (fun x : Int => (AV.int .i64 x)) r4))), none, none, none, none, none, none, none, none, none, none, none, none] rfl ?_
  refine wr_seq ?_
  refine wr_region ?_
  refine wo_val (.ptr (ix ids 2) g 0 5) rfl (pv_fa (fa_ptr (c := 0) (off := 5) (i := 5) ti31 rfl ti27 rfl)) ?_
  refine wo_val (.sl 2 (List.map rAirport a.Airports)) rfl (pv_load (ld_ptr hI rfl rfl rfl ti27 rfl)) ?_
  refine of_callM (j := 8) [(.sl 2 (List.map rAirport a.Airports)), (.func (.func 35) [] [])] hI rfl rfl rfl rfl rfl rfl ((cpm_names_index_Airport_airport a.Airports) _ _ (hI.at rfl rfl)) (fun v _ => hU v _ _ _ _ _ _ rfl rfl rfl rfl rfl rfl) fun r5 _ g8 => ?_
  refine wo_val (.map (ix ids 8) g8) rfl pv_assign ?_
  refine wo_nil ?_
  refine wr_hp [(some (.rows g1 8 [[.emp, .emp, .emp, .emp, .emp, .emp, .emp, .emp]])), (some (.rows g2 1 [[(.int .i64 0)]])), (some (.rows g 8 [(rAirspace a)])), (some (.mp g3 (mE (fun x : Str => (AV.str x)) (fun x : Int => (AV.int .i64 x)) r))), (some (.mp g4 (mE (fun x : Str => (AV.str x)) (fun x : Int => (AV.int .i64 x)) r1))), (some (.mp g5 (mE (fun x : Str => (AV.str x)) (fun x : Int => (AV.int .i64 x)) r2))), (some (.mp g6 (mE (fun x : Str => (AV.str x)) (fun x : Int => (AV.int .i64 x)) r3))), (some (.mp g7 (mE (fun x : Str => (AV.str x)) (fun x : Int => (AV.int .i64 x)) r4))), (some (.mp g8 (mE (fun x : Str => (AV.str x)) (fun x : Int => (AV.int .i64 x)) r5))), none, none, none, none, none, none, none, none, none, none, none] rfl ?_
  refine wr_seq ?_
  refine wr_region ?_
  refine wo_val (.ptr (ix ids 2) g 0 6) rfl (pv_fa (fa_ptr (c := 0) (off := 6) (i := 6) ti31 rfl ti28 rfl)) ?_
  refine wo_val (.sl 4 (List.map rClass a.Classes)) rfl (pv_load (ld_ptr hI rfl rfl rfl ti28 rfl)) ?_
  refine of_callM (j := 9) [(.sl 4 (List.map rClass a.Classes)), (.func (.func 37) [] [])] hI rfl rfl rfl rfl rfl rfl ((cpm_names_index_Class_class a.Classes) _ _ (hI.at rfl rfl)) (fun v _ => hU v _ _ _ _ _ _ rfl rfl rfl rfl rfl rfl) fun r6 _ g9 => ?_
  refine wo_val (.map (ix ids 9) g9) rfl pv_assign ?_
  refine wo_nil ?_
  refine wr_hp [(some (.rows g1 8 [[.emp, .emp, .emp, .emp, .emp, .emp, .emp, .emp]])), (some (.rows g2 1 [[(.int .i64 0)]])), (some (.rows g 8 [(rAirspace a)])), (some (.mp g3 (mE (fun x : Str => (AV.str x)) (fun x : Int => (AV.int .i64 x)) r))), (some (.mp g4 (mE (fun x : Str => (AV.str x)) (fun x : Int => (AV.int .i64 x)) r1))), (some (.mp g5 (mE (fun x : Str => (AV.str x)) (fun x : Int => (AV.int .i64 x)) r2))), (some (.mp g6 (mE (fun x : Str => (AV.str x)) (fun x : Int => (AV.int .i64 x)) r3))), (some (.mp g7 (mE (fun x : Str => (AV.str x)) (fun x : Int => (AV.int .i64 x)) r4))), (some (.mp g8 (mE (fun x : Str => (AV.str x)) (fun x : Int => (AV.int .i64 x)) r5))), (some (.mp g9 (mE (fun x : Str => (AV.str x)) (fun x : Int => (AV.int .i64 x)) r6))), none, none, none, none, none, none, none, none, none, none] rfl ?_
  refine wr_seq ?_
  refine wr_seq ?_
  refine wr_region ?_
  refine wo_val (.ptr (ix ids 2) g 0 5) rfl (pv_fa (fa_ptr (c := 0) (off := 5) (i := 5) ti31 rfl ti27 rfl)) ?_
  refine wo_val (.sl 2 (List.map rAirport a.Airports)) rfl (pv_load (ld_ptr hI rfl rfl rfl ti27 rfl)) ?_
  refine wo_val (.int .i64 (a.Airports.length : Int)) rfl (pv_len (len_sl ti27)) ?_
  refine wo_val (.int .i64 0) rfl pv_move ?_
  refine wo_nil ?_
  refine wr_block ?_
  refine wr_drop [(some (.rows g1 8 [[.emp, .emp, .emp, .emp, .emp, .emp, .emp, .emp]])), (some (.rows g2 1 [[(.int .i64 0)]])), (some (.rows g 8 [(rAirspace a)])), (some (.mp g3 (mE (fun x : Str => (AV.str x)) (fun x : Int => (AV.int .i64 x)) r))), (some (.mp g4 (mE (fun x : Str => (AV.str x)) (fun x : Int => (AV.int .i64 x)) r1))), none, (some (.mp g6 (mE (fun x : Str => (AV.str x)) (fun x : Int => (AV.int .i64 x)) r3))), none, (some (.mp g8 (mE (fun x : Str => (AV.str x)) (fun x : Int => (AV.int .i64 x)) r5))), (some (.mp g9 (mE (fun x : Str => (AV.str x)) (fun x : Int => (AV.int .i64 x)) r6))), none, none, none, none, none, none, none, none, none, none] hI rfl (.keep (.keep (.keep (.keep (.keep (.drop (.keep (.drop (.keep (.keep (.keep (.keep (.keep (.keep (.keep (.keep (.keep (.keep (.keep (.keep .nil)))))))))))))))))))) ?_
  refine wr_is [(1, (.ptr (ix ids 2) g 0 0)), (2, (.ptr (ix ids 0) g1 0 0)), (3, (.ptr (ix ids 1) g2 0 0)), (4, (.map (ix ids 3) g3)), (5, (.map (ix ids 4) g4)), (6, (.map (ix ids 6) g6)), (7, (.map (ix ids 8) g8)), (8, (.map (ix ids 9) g9)), (44, (.sl 2 (List.map rAirport a.Airports))), (45, (.int .i64 (a.Airports.length : Int))), (46, (.int .i64 0))] (.cons rfl (.cons rfl (.cons rfl (.cons rfl (.cons rfl (.cons rfl (.cons rfl (.cons rfl (.cons rfl (.cons rfl (.cons rfl .nil))))))))))) ?_
  refine wf_eachS' (P := Try.prog) a.Airports (fun _ a1 => fun _ => names_Resolve_b1 a1) (((fun _ => (slices_Clone_Sector a.Sectors).bind fun r8 =>
  (slices_Clone_Config a.Configs).bind fun r9 =>
  (slices_Clone_Segment a.Segments).bind fun r10 =>
  (slices_Clone_Route a.Routes).bind fun r11 =>
  (slices_Clone_Rule a.Rules).bind fun r12 =>
  (eachS (fun j1 _ => fun x2 => names_Resolve_b2 r j1 x2) 0 r8 r8).bind ((fun x2 => (eachS (fun j2 _ => fun x4 => names_Resolve_b3 r1 j2 x4) 0 r9 r9).bind ((fun x4 => (eachS (fun j3 _ => fun x6 => names_Resolve_b4 r j3 x6) 0 r10 r10).bind ((fun x6 => (eachS (fun j4 _ => fun l => names_Resolve_b5 r3 r5 j4 l) 0 r11 r11).bind ((fun l => (eachS (fun j5 _ => fun l1 => names_Resolve_b6 r5 r6 j5 l1) 0 r12 r12).bind ((fun l1 => .ok (({ Volumes := a.Volumes, Sectors := x2, Configs := x4, Segments := x6, Routes := l, Airports := a.Airports, Classes := a.Classes, Rules := l1 } : Airspace), 0))))))))))))) : Unit → R (Airspace × Int))
    (fun j => fun _ => fun (fr : Nat → AV) (h : AHeap) => fr = frA [(1, (.ptr (ix ids 2) g 0 0)), (2, (.ptr (ix ids 0) g1 0 0)), (3, (.ptr (ix ids 1) g2 0 0)), (4, (.map (ix ids 3) g3)), (5, (.map (ix ids 4) g4)), (6, (.map (ix ids 6) g6)), (7, (.map (ix ids 8) g8)), (8, (.map (ix ids 9) g9)), (44, (.sl 2 (List.map rAirport a.Airports))), (45, (.int .i64 (a.Airports.length : Int))), (46, (.int .i64 (j : Int)))] ∧ h = hp h0 ids [(some (.rows g1 8 [[.emp, .emp, .emp, .emp, .emp, .emp, .emp, .emp]])), (some (.rows g2 1 [[(.int .i64 0)]])), (some (.rows g 8 [(rAirspace a)])), (some (.mp g3 (mE (fun x : Str => (AV.str x)) (fun x : Int => (AV.int .i64 x)) r))), (some (.mp g4 (mE (fun x : Str => (AV.str x)) (fun x : Int => (AV.int .i64 x)) r1))), none, (some (.mp g6 (mE (fun x : Str => (AV.str x)) (fun x : Int => (AV.int .i64 x)) r3))), none, (some (.mp g8 (mE (fun x : Str => (AV.str x)) (fun x : Int => (AV.int .i64 x)) r5))), (some (.mp g9 (mE (fun x : Str => (AV.str x)) (fun x : Int => (AV.int .i64 x)) r6))), none, none, none, none, none, none, none, none, none, none]) () ?_ ?_ ?_
  · exact ⟨rfl, rfl⟩
  · rintro j a1 ha1 W hW _ fr h ⟨rfl, rfl⟩
    refine wr_mod (m' := names_Resolve_b1 a1) rfl (wr_mod (names_Resolve_b1.eq_1 _) ?_)
    refine wr_seq ?_
    refine wr_region ?_
    refine wo_val (.bool (decide ((j : Int) < (a.Airports.length : Int)))) rfl (pv_bin rfl rfl rfl) ?_
    refine wo_nil ?_
    refine wr_seq ?_
    refine wr_lim (t := 44) (L := a.Airports) rfl fun hlim => ?_
    refine wr_condT rfl (Int.ofNat_lt.2 (lt_of_get ha1)) ?_
    refine wr_skip ?_
    refine wr_seq ?_
    refine wr_block ?_
    refine wr_seq ?_
    refine wr_region ?_
    refine wo_val (.cp (rAirport a1) 0) rfl (pv_ixa (ixa_nat ti27 ti46 rfl ha1)) ?_
    refine wo_val (.agg (rAirport a1)) rfl (pv_load (ld_cp ti46 rfl)) ?_
    refine wo_alloc (j := 10) hI rfl rfl rfl rfl ti46 rfl fun g10 => ?_
    refine wo_store (st_ptr hI rfl rfl rfl rfl ti46 rfl rfl rfl rfl rfl) ?_
    refine wo_nil ?_
    refine wr_hp [(some (.rows g1 8 [[.emp, .emp, .emp, .emp, .emp, .emp, .emp, .emp]])), (some (.rows g2 1 [[(.int .i64 0)]])), (some (.rows g 8 [(rAirspace a)])), (some (.mp g3 (mE (fun x : Str => (AV.str x)) (fun x : Int => (AV.int .i64 x)) r))), (some (.mp g4 (mE (fun x : Str => (AV.str x)) (fun x : Int => (AV.int .i64 x)) r1))), none, (some (.mp g6 (mE (fun x : Str => (AV.str x)) (fun x : Int => (AV.int .i64 x)) r3))), none, (some (.mp g8 (mE (fun x : Str => (AV.str x)) (fun x : Int => (AV.int .i64 x)) r5))), (some (.mp g9 (mE (fun x : Str => (AV.str x)) (fun x : Int => (AV.int .i64 x)) r6))), (some (.rows g10 2 [(rAirport a1)])), none, none, none, none, none, none, none, none, none] rfl ?_
    refine wr_region ?_
    refine wo_val (.ptr (ix ids 10) g10 0 1) rfl (pv_fa (fa_ptr (c := 0) (off := 1) (i := 1) ti46 rfl ti44 rfl)) ?_
    refine wo_val (.sl 2 (List.map rMode a1.Modes)) rfl (pv_load (ld_ptr hI rfl rfl rfl ti44 rfl)) ?_
    refine of_callM (j := 11) [(.sl 2 (List.map rMode a1.Modes)), (.func (.func 39) [] [])] hI rfl rfl rfl rfl rfl rfl ((cpm_names_index_Mode_c6 a1.Modes) _ _ (hI.at rfl rfl)) (fun v _ => hU v _ _ _ _ _ _ rfl rfl rfl rfl rfl rfl) fun r7 _ g11 => ?_
    refine wo_nil ?_
    refine wr_hp [(some (.rows g1 8 [[.emp, .emp, .emp, .emp, .emp, .emp, .emp, .emp]])), (some (.rows g2 1 [[(.int .i64 0)]])), (some (.rows g 8 [(rAirspace a)])), (some (.mp g3 (mE (fun x : Str => (AV.str x)) (fun x : Int => (AV.int .i64 x)) r))), (some (.mp g4 (mE (fun x : Str => (AV.str x)) (fun x : Int => (AV.int .i64 x)) r1))), none, (some (.mp g6 (mE (fun x : Str => (AV.str x)) (fun x : Int => (AV.int .i64 x)) r3))), none, (some (.mp g8 (mE (fun x : Str => (AV.str x)) (fun x : Int => (AV.int .i64 x)) r5))), (some (.mp g9 (mE (fun x : Str => (AV.str x)) (fun x : Int => (AV.int .i64 x)) r6))), (some (.rows g10 2 [(rAirport a1)])), (some (.mp g11 (mE (fun x : Str => (AV.str x)) (fun x : Int => (AV.int .i64 x)) r7))), none, none, none, none, none, none, none, none] rfl ?_
    refine wr_inBlock ?_
    refine wr_region ?_
    refine wo_val (.int .i64 (IntKind.wrap .i64 ((j : Int) + 1))) rfl (pv_bin rfl rfl rfl) ?_
    refine wo_val (.int .i64 (IntKind.wrap .i64 ((j : Int) + 1))) rfl pv_move ?_
    refine wo_nil ?_
    refine wr_drop [(some (.rows g1 8 [[.emp, .emp, .emp, .emp, .emp, .emp, .emp, .emp]])), (some (.rows g2 1 [[(.int .i64 0)]])), (some (.rows g 8 [(rAirspace a)])), (some (.mp g3 (mE (fun x : Str => (AV.str x)) (fun x : Int => (AV.int .i64 x)) r))), (some (.mp g4 (mE (fun x : Str => (AV.str x)) (fun x : Int => (AV.int .i64 x)) r1))), none, (some (.mp g6 (mE (fun x : Str => (AV.str x)) (fun x : Int => (AV.int .i64 x)) r3))), none, (some (.mp g8 (mE (fun x : Str => (AV.str x)) (fun x : Int => (AV.int .i64 x)) r5))), (some (.mp g9 (mE (fun x : Str => (AV.str x)) (fun x : Int => (AV.int .i64 x)) r6))), none, none, none, none, none, none, none, none, none, none] hI rfl (.keep (.keep (.keep (.keep (.keep (.keep (.keep (.keep (.keep (.keep (.drop (.drop (.keep (.keep (.keep (.keep (.keep (.keep (.keep (.keep .nil)))))))))))))))))))) ?_
    refine wr_is [(1, (.ptr (ix ids 2) g 0 0)), (2, (.ptr (ix ids 0) g1 0 0)), (3, (.ptr (ix ids 1) g2 0 0)), (4, (.map (ix ids 3) g3)), (5, (.map (ix ids 4) g4)), (6, (.map (ix ids 6) g6)), (7, (.map (ix ids 8) g8)), (8, (.map (ix ids 9) g9)), (44, (.sl 2 (List.map rAirport a.Airports))), (45, (.int .i64 (a.Airports.length : Int))), (46, (.int .i64 ((j + 1 : Nat) : Int)))] (.cons rfl (.cons rfl (.cons rfl (.cons rfl (.cons rfl (.cons rfl (.cons rfl (.cons rfl (.cons rfl (.cons rfl (.cons (inc_ok (lt_of_get ha1) hlim) .nil))))))))))) ?_
    refine wb_S ?_
    refine hW () _ _ ?_
    exact ⟨rfl, rfl⟩
  · rintro _ fr h ⟨rfl, rfl⟩
    refine wr_seq ?_
    refine wr_region ?_
    refine wo_val (.bool (decide ((a.Airports.length : Int) < (a.Airports.length : Int)))) rfl (pv_bin rfl rfl rfl) ?_
    refine wo_nil ?_
    refine wr_seq ?_
    refine wr_condF rfl (Int.lt_irrefl _) ?_
    refine wr_exit rfl ?_
    refine wr_seq ?_
    refine wr_region ?_
    refine wo_val (.agg (rAirspace a)) rfl (pv_load (ld_ptr hI rfl rfl rfl ti31 rfl)) ?_
    refine wo_store (st_ptr hI rfl rfl rfl rfl ti31 rfl rfl rfl rfl rfl) ?_
    refine wo_nil ?_
    refine wr_hp [(some (.rows g1 8 [(rAirspace a)])), (some (.rows g2 1 [[(.int .i64 0)]])), (some (.rows g 8 [(rAirspace a)])), (some (.mp g3 (mE (fun x : Str => (AV.str x)) (fun x : Int => (AV.int .i64 x)) r))), (some (.mp g4 (mE (fun x : Str => (AV.str x)) (fun x : Int => (AV.int .i64 x)) r1))), none, (some (.mp g6 (mE (fun x : Str => (AV.str x)) (fun x : Int => (AV.int .i64 x)) r3))), none, (some (.mp g8 (mE (fun x : Str => (AV.str x)) (fun x : Int => (AV.int .i64 x)) r5))), (some (.mp g9 (mE (fun x : Str => (AV.str x)) (fun x : Int => (AV.int .i64 x)) r6))), none, none, none, none, none, none, none, none, none, none] rfl ?_
    refine wr_seq ?_
    refine wr_draw hmix [[], [0], [0, 1], [], [3], [0, 1, 2, 3, 4], [], [6], [0, 1, 2, 3, 4, 5, 6, 7], [0, 1, 2], [0, 1, 2, 3, 4, 5, 6, 7, 8, 9], [0, 1, 2, 3, 4, 5, 6, 7, 8, 9, 10], [0, 1, 2, 3, 4, 5, 6, 7, 8, 9, 10, 11], [0, 1, 2, 3, 4, 5, 6, 7, 8, 9, 10, 11, 12], [0, 1, 2, 3, 4, 5, 6, 7, 8, 8, 9, 10, 11, 12, 12, 13]] [(false, 0), (false, 1), (false, 3), (false, 4), (false, 6), (false, 7), (true, 2), (false, 9), (true, 5), (true, 8), (true, 10), (false, 11), (true, 12), (false, 13), (true, 14)] (by kernel_rfl) ?_
    refine wp_val (.ptr (ix ids 2) g 0 1) rfl rfl (pv_fa (fa_ptr (c := 0) (off := 1) (i := 1) ti31 rfl ti23 rfl)) ?_
    refine wp_val (.sl 5 (List.map rSector a.Sectors)) rfl rfl (pv_load (ld_ptr hI rfl rfl rfl ti23 rfl)) ?_
    refine wp_val (.ptr (ix ids 2) g 0 2) rfl rfl (pv_fa (fa_ptr (c := 0) (off := 2) (i := 2) ti31 rfl ti24 rfl)) ?_
    refine wp_val (.sl 3 (List.map rConfig a.Configs)) rfl rfl (pv_load (ld_ptr hI rfl rfl rfl ti24 rfl)) ?_
    refine wp_val (.ptr (ix ids 2) g 0 3) rfl rfl (pv_fa (fa_ptr (c := 0) (off := 3) (i := 3) ti31 rfl ti25 rfl)) ?_
    refine wp_val (.sl 5 (List.map rSegment a.Segments)) rfl rfl (pv_load (ld_ptr hI rfl rfl rfl ti25 rfl)) ?_
    refine wp_callO (j := 13) [(.sl 5 (List.map rSector a.Sectors))] rfl hI rfl rfl rfl rfl rfl rfl ((cpo_slices_Clone_Sector a.Sectors) _ _ (hI.at rfl rfl)) (fun v _ fr hf => hU v fr _ _ _ _ _ rfl rfl rfl rfl ((hf 2 rfl).trans rfl) ((hf 3 rfl).trans rfl)) fun r8 _ v g12 vH => ⟨(pend_no rfl (pv_load (ld_ptr hI rfl rfl rfl ti25 rfl)) (pend_no rfl (pv_fa (fa_ptr (c := 0) (off := 3) (i := 3) ti31 rfl ti25 rfl)) (pend_no rfl (pv_load (ld_ptr hI rfl rfl rfl ti24 rfl)) (pend_no rfl (pv_fa (fa_ptr (c := 0) (off := 2) (i := 2) ti31 rfl ti24 rfl)) (pend_yes rfl (pend_yes rfl pend_nil)))))), ?_⟩
    refine wp_val (.ptr (ix ids 0) g1 0 1) rfl rfl (pv_fa (fa_ptr (c := 0) (off := 1) (i := 1) ti31 rfl ti23 rfl)) ?_
    refine wp_callO (j := 15) [(.sl 3 (List.map rConfig a.Configs))] rfl hI rfl rfl rfl rfl rfl rfl ((cpo_slices_Clone_Config a.Configs) _ _ (hI.at rfl rfl)) (fun v _ fr hf => hU v fr _ _ _ _ _ rfl rfl rfl rfl ((hf 2 rfl).trans rfl) ((hf 3 rfl).trans rfl)) fun r9 _ v1 g13 vH1 => ⟨(pend_no rfl (pv_fa (fa_ptr (c := 0) (off := 1) (i := 1) ti31 rfl ti23 rfl)) (pend_no rfl (pv_load (ld_ptr hI rfl rfl rfl ti25 rfl)) (pend_no rfl (pv_fa (fa_ptr (c := 0) (off := 3) (i := 3) ti31 rfl ti25 rfl)) (pend_yes rfl (pend_yes rfl (pend_yes rfl (pend_yes rfl pend_nil))))))), ?_⟩
    refine wp_callO (j := 17) [(.sl 5 (List.map rSegment a.Segments))] rfl hI rfl rfl rfl rfl rfl rfl ((cpo_slices_Clone_Segment a.Segments) _ _ (hI.at rfl rfl)) (fun v _ fr hf => hU v fr _ _ _ _ _ rfl rfl rfl rfl ((hf 2 rfl).trans rfl) ((hf 3 rfl).trans rfl)) fun r10 _ v2 g14 vH2 => ⟨(pend_no rfl (pv_fa (fa_ptr (c := 0) (off := 1) (i := 1) ti31 rfl ti23 rfl)) (pend_yes rfl (pend_yes rfl (pend_yes rfl (pend_yes rfl (pend_yes rfl (pend_yes rfl pend_nil))))))), ?_⟩
    refine wp_op0 rfl (fun _ _ => rfl) (fun K hK => eff_store (st_ptrO vH hI rfl rfl rfl rfl ti23 rfl rfl rfl) (hK _ _ (pend_yes rfl (pend_yes rfl (pend_yes rfl (pend_yes rfl (pend_yes rfl (pend_yes rfl (pend_yes rfl pend_nil))))))) ?_)) 
    clear hK K
    refine wp_val (.ptr (ix ids 0) g1 0 2) rfl rfl (pv_fa (fa_ptr (c := 0) (off := 2) (i := 2) ti31 rfl ti24 rfl)) ?_
    refine wp_op0 rfl (fun _ _ => rfl) (fun K hK => eff_store (st_ptrO vH1 hI rfl rfl rfl rfl ti24 rfl rfl rfl) (hK _ _ (pend_yes rfl (pend_yes rfl (pend_yes rfl (pend_yes rfl (pend_yes rfl (pend_yes rfl (pend_yes rfl (pend_yes rfl pend_nil)))))))) ?_)) 
    clear hK K
    refine wp_val (.ptr (ix ids 0) g1 0 3) rfl rfl (pv_fa (fa_ptr (c := 0) (off := 3) (i := 3) ti31 rfl ti25 rfl)) ?_
    refine wp_op0 rfl (fun _ _ => rfl) (fun K hK => eff_store (st_ptrO vH2 hI rfl rfl rfl rfl ti25 rfl rfl rfl) (hK _ _ (pend_yes rfl (pend_yes rfl (pend_yes rfl (pend_yes rfl (pend_yes rfl (pend_yes rfl (pend_yes rfl (pend_yes rfl (pend_yes rfl pend_nil))))))))) ?_)) 
    clear hK K
    refine wp_nil ?_
    refine wr_hp [(some (.rows g1 8 [[(.sl 2 (List.map rVolume a.Volumes)), v, v1, v2, (.sl 7 (List.map rRoute a.Routes)), (.sl 2 (List.map rAirport a.Airports)), (.sl 4 (List.map rClass a.Classes)), (.sl 8 (List.map rRule a.Rules))]])), (some (.rows g2 1 [[(.int .i64 0)]])), (some (.rows g 8 [(rAirspace a)])), (some (.mp g3 (mE (fun x : Str => (AV.str x)) (fun x : Int => (AV.int .i64 x)) r))), (some (.mp g4 (mE (fun x : Str => (AV.str x)) (fun x : Int => (AV.int .i64 x)) r1))), none, (some (.mp g6 (mE (fun x : Str => (AV.str x)) (fun x : Int => (AV.int .i64 x)) r3))), none, (some (.mp g8 (mE (fun x : Str => (AV.str x)) (fun x : Int => (AV.int .i64 x)) r5))), (some (.mp g9 (mE (fun x : Str => (AV.str x)) (fun x : Int => (AV.int .i64 x)) r6))), none, none, none, (ownO v g12 5 (List.map rSector r8)), none, (ownO v1 g13 3 (List.map rConfig r9)), none, (ownO v2 g14 5 (List.map rSegment r10)), none, none] rfl ?_
    refine wr_seq ?_
    refine wr_draw hmix [[], [0], [0, 1], [], [3], [0, 1, 2, 3, 4], [0, 1, 2], [0, 1, 2, 3, 4, 5, 6], [0, 1, 2, 3, 4, 5, 6, 7], [0, 1, 2, 3, 4, 5, 5, 6, 7, 7, 8]] [(false, 0), (false, 1), (false, 3), (false, 4), (true, 2), (false, 6), (true, 5), (true, 7), (false, 8), (true, 9)] (by kernel_rfl) ?_
    refine wp_val (.ptr (ix ids 2) g 0 4) rfl rfl (pv_fa (fa_ptr (c := 0) (off := 4) (i := 4) ti31 rfl ti26 rfl)) ?_
    refine wp_val (.sl 7 (List.map rRoute a.Routes)) rfl rfl (pv_load (ld_ptr hI rfl rfl rfl ti26 rfl)) ?_
    refine wp_val (.ptr (ix ids 2) g 0 7) rfl rfl (pv_fa (fa_ptr (c := 0) (off := 7) (i := 7) ti31 rfl ti29 rfl)) ?_
    refine wp_val (.sl 8 (List.map rRule a.Rules)) rfl rfl (pv_load (ld_ptr hI rfl rfl rfl ti29 rfl)) ?_
    refine wp_callO (j := 18) [(.sl 7 (List.map rRoute a.Routes))] rfl hI rfl rfl rfl rfl rfl rfl ((cpo_slices_Clone_Route a.Routes) _ _ (hI.at rfl rfl)) (fun v _ fr hf => hU v fr _ _ _ _ _ rfl rfl rfl rfl ((hf 2 rfl).trans rfl) ((hf 3 rfl).trans rfl)) fun r11 _ v3 g15 vH3 => ⟨(pend_no rfl (pv_load (ld_ptr hI rfl rfl rfl ti29 rfl)) (pend_no rfl (pv_fa (fa_ptr (c := 0) (off := 7) (i := 7) ti31 rfl ti29 rfl)) (pend_yes rfl (pend_yes rfl pend_nil)))), ?_⟩
    refine wp_val (.ptr (ix ids 0) g1 0 4) rfl rfl (pv_fa (fa_ptr (c := 0) (off := 4) (i := 4) ti31 rfl ti26 rfl)) ?_
    refine wp_callO (j := 19) [(.sl 8 (List.map rRule a.Rules))] rfl hI rfl rfl rfl rfl rfl rfl ((cpo_slices_Clone_Rule a.Rules) _ _ (hI.at rfl rfl)) (fun v _ fr hf => hU v fr _ _ _ _ _ rfl rfl rfl rfl ((hf 2 rfl).trans rfl) ((hf 3 rfl).trans rfl)) fun r12 _ v4 g16 vH4 => ⟨(pend_no rfl (pv_fa (fa_ptr (c := 0) (off := 4) (i := 4) ti31 rfl ti26 rfl)) (pend_yes rfl (pend_yes rfl (pend_yes rfl (pend_yes rfl pend_nil))))), ?_⟩
    refine wp_op0 rfl (fun _ _ => rfl) (fun K hK => eff_store (st_ptrO vH3 hI rfl rfl rfl rfl ti26 rfl rfl rfl) (hK _ _ (pend_yes rfl (pend_yes rfl (pend_yes rfl (pend_yes rfl (pend_yes rfl pend_nil))))) ?_)) 
    clear hK K
    refine wp_val (.ptr (ix ids 0) g1 0 7) rfl rfl (pv_fa (fa_ptr (c := 0) (off := 7) (i := 7) ti31 rfl ti29 rfl)) ?_
    refine wp_op0 rfl (fun _ _ => rfl) (fun K hK => eff_store (st_ptrO vH4 hI rfl rfl rfl rfl ti29 rfl rfl rfl) (hK _ _ (pend_yes rfl (pend_yes rfl (pend_yes rfl (pend_yes rfl (pend_yes rfl (pend_yes rfl pend_nil)))))) ?_)) 
    clear hK K
    refine wp_nil ?_
    refine wr_hp [(some (.rows g1 8 [[(.sl 2 (List.map rVolume a.Volumes)), v, v1, v2, v3, (.sl 2 (List.map rAirport a.Airports)), (.sl 4 (List.map rClass a.Classes)), v4]])), (some (.rows g2 1 [[(.int .i64 0)]])), (some (.rows g 8 [(rAirspace a)])), (some (.mp g3 (mE (fun x : Str => (AV.str x)) (fun x : Int => (AV.int .i64 x)) r))), (some (.mp g4 (mE (fun x : Str => (AV.str x)) (fun x : Int => (AV.int .i64 x)) r1))), none, (some (.mp g6 (mE (fun x : Str => (AV.str x)) (fun x : Int => (AV.int .i64 x)) r3))), none, (some (.mp g8 (mE (fun x : Str => (AV.str x)) (fun x : Int => (AV.int .i64 x)) r5))), (some (.mp g9 (mE (fun x : Str => (AV.str x)) (fun x : Int => (AV.int .i64 x)) r6))), none, none, none, (ownO v g12 5 (List.map rSector r8)), none, (ownO v1 g13 3 (List.map rConfig r9)), none, (ownO v2 g14 5 (List.map rSegment r10)), (ownO v3 g15 7 (List.map rRoute r11)), (ownO v4 g16 8 (List.map rRule r12))] rfl ?_
    refine wr_seq ?_
    refine wr_seq ?_
    refine wr_region ?_
    refine wo_val (.ptr (ix ids 0) g1 0 1) rfl (pv_fa (fa_ptr (c := 0) (off := 1) (i := 1) ti31 rfl ti23 rfl)) ?_
    refine wo_val v rfl (pv_load (ld_ptr hI rfl rfl rfl ti23 rfl)) ?_
    refine wo_val (.int .i64 (r8.length : Int)) rfl (pv_len (OwnV.len vH ti23)) ?_
    refine wo_val (.int .i64 0) rfl pv_move ?_
    refine wo_nil ?_
    refine wr_block ?_
    refine wr_limo (t := 57) rfl vH fun hlim1 => ?_
    refine wr_drop [(some (.rows g1 8 [[(.sl 2 (List.map rVolume a.Volumes)), v, v1, v2, v3, (.sl 2 (List.map rAirport a.Airports)), (.sl 4 (List.map rClass a.Classes)), v4]])), (some (.rows g2 1 [[(.int .i64 0)]])), none, (some (.mp g3 (mE (fun x : Str => (AV.str x)) (fun x : Int => (AV.int .i64 x)) r))), (some (.mp g4 (mE (fun x : Str => (AV.str x)) (fun x : Int => (AV.int .i64 x)) r1))), none, (some (.mp g6 (mE (fun x : Str => (AV.str x)) (fun x : Int => (AV.int .i64 x)) r3))), none, (some (.mp g8 (mE (fun x : Str => (AV.str x)) (fun x : Int => (AV.int .i64 x)) r5))), (some (.mp g9 (mE (fun x : Str => (AV.str x)) (fun x : Int => (AV.int .i64 x)) r6))), none, none, none, (ownO v g12 5 (List.map rSector r8)), none, (ownO v1 g13 3 (List.map rConfig r9)), none, (ownO v2 g14 5 (List.map rSegment r10)), (ownO v3 g15 7 (List.map rRoute r11)), (ownO v4 g16 8 (List.map rRule r12))] hI rfl (.keep (.keep (.drop (.keep (.keep (.keep (.keep (.keep (.keep (.keep (.keep (.keep (.keep (.keep (.keep (.keep (.keep (.keep (.keep (.keep .nil)))))))))))))))))))) ?_
    refine wr_is [(2, (.ptr (ix ids 0) g1 0 0)), (3, (.ptr (ix ids 1) g2 0 0)), (4, (.map (ix ids 3) g3)), (5, (.map (ix ids 4) g4)), (6, (.map (ix ids 6) g6)), (7, (.map (ix ids 8) g8)), (8, (.map (ix ids 9) g9)), (76, v), (77, (.int .i64 (r8.length : Int))), (78, (.int .i64 0))] (.cons rfl (.cons rfl (.cons rfl (.cons rfl (.cons rfl (.cons rfl (.cons rfl (.cons rfl (.cons rfl (.cons rfl .nil)))))))))) ?_
    refine wf_eachS' (P := Try.prog) r8 (fun j1 _ => fun x2 => names_Resolve_b2 r j1 x2) (((fun x2 => (eachS (fun j2 _ => fun x4 => names_Resolve_b3 r1 j2 x4) 0 r9 r9).bind ((fun x4 => (eachS (fun j3 _ => fun x6 => names_Resolve_b4 r j3 x6) 0 r10 r10).bind ((fun x6 => (eachS (fun j4 _ => fun l => names_Resolve_b5 r3 r5 j4 l) 0 r11 r11).bind ((fun l => (eachS (fun j5 _ => fun l1 => names_Resolve_b6 r5 r6 j5 l1) 0 r12 r12).bind ((fun l1 => .ok (({ Volumes := a.Volumes, Sectors := x2, Configs := x4, Segments := x6, Routes := l, Airports := a.Airports, Classes := a.Classes, Rules := l1 } : Airspace), 0))))))))))) : (List Sector) → R (Airspace × Int))
      (fun j1 => fun x2 => fun (fr : Nat → AV) (h : AHeap) => ∃ (v5 : AV), ∃ (g17 : Nat), OwnV v5 (ix ids 13) g17 x2.length ∧ fr = frA [(2, (.ptr (ix ids 0) g1 0 0)), (3, (.ptr (ix ids 1) g2 0 0)), (4, (.map (ix ids 3) g3)), (5, (.map (ix ids 4) g4)), (6, (.map (ix ids 6) g6)), (7, (.map (ix ids 8) g8)), (8, (.map (ix ids 9) g9)), (76, v5), (77, (.int .i64 (r8.length : Int))), (78, (.int .i64 (j1 : Int)))] ∧ h = hp h0 ids [(some (.rows g1 8 [[(.sl 2 (List.map rVolume a.Volumes)), v5, v1, v2, v3, (.sl 2 (List.map rAirport a.Airports)), (.sl 4 (List.map rClass a.Classes)), v4]])), (some (.rows g2 1 [[(.int .i64 0)]])), none, (some (.mp g3 (mE (fun x : Str => (AV.str x)) (fun x : Int => (AV.int .i64 x)) r))), (some (.mp g4 (mE (fun x : Str => (AV.str x)) (fun x : Int => (AV.int .i64 x)) r1))), none, (some (.mp g6 (mE (fun x : Str => (AV.str x)) (fun x : Int => (AV.int .i64 x)) r3))), none, (some (.mp g8 (mE (fun x : Str => (AV.str x)) (fun x : Int => (AV.int .i64 x)) r5))), (some (.mp g9 (mE (fun x : Str => (AV.str x)) (fun x : Int => (AV.int .i64 x)) r6))), none, none, none, (ownO v5 g17 5 (List.map rSector x2)), none, (ownO v1 g13 3 (List.map rConfig r9)), none, (ownO v2 g14 5 (List.map rSegment r10)), (ownO v3 g15 7 (List.map rRoute r11)), (ownO v4 g16 8 (List.map rRule r12))]) r8 ?_ ?_ ?_
    · exact ⟨v, g12, vH, rfl, rfl⟩
    · rintro j1 a2 ha2 W hW1 x2 fr h ⟨v5, g17, vH5, rfl, rfl⟩
      refine wr_mod (m' := names_Resolve_b2 r j1 x2) rfl (wr_mod (names_Resolve_b2.eq_1 _ _ _) ?_)
      refine wr_seq ?_
      refine wr_region ?_
      refine wo_val (.bool (decide ((j1 : Int) < (r8.length : Int)))) rfl (pv_bin rfl rfl rfl) ?_
      refine wo_nil ?_
      refine wr_seq ?_
      refine wr_condT rfl (Int.ofNat_lt.2 (lt_of_get ha2)) ?_
      refine wr_skip ?_
      refine wr_seq ?_
      refine wr_block ?_
      refine wr_seq ?_
      refine wr_region ?_
      refine wo_val (.int .i64 (j1 : Int)) rfl pv_move ?_
      refine of_idx fun a3 hz hx1 => ?_
      refine wo_val (.ptr (ix ids 13) g17 (j1 : Int).toNat 0) rfl (pv_ixa (ixa_own hI rfl vH5 rfl ti23 ti53 rfl hz hx1)) ?_
      refine wo_val (.agg (rSector a3)) rfl (pv_load (ld_own hI rfl vH5 rfl hx1 ti53 rfl)) ?_
      refine wo_alloc (j := 12) hI rfl rfl rfl rfl ti53 rfl fun g18 => ?_
      refine wo_val (.int .i64 (j1 : Int)) rfl pv_assign ?_
      refine wo_store (st_ptr hI rfl rfl rfl rfl ti53 rfl rfl rfl rfl rfl) ?_
      refine wo_nil ?_
      refine wr_hp [(some (.rows g1 8 [[(.sl 2 (List.map rVolume a.Volumes)), v5, v1, v2, v3, (.sl 2 (List.map rAirport a.Airports)), (.sl 4 (List.map rClass a.Classes)), v4]])), (some (.rows g2 1 [[(.int .i64 0)]])), none, (some (.mp g3 (mE (fun x : Str => (AV.str x)) (fun x : Int => (AV.int .i64 x)) r))), (some (.mp g4 (mE (fun x : Str => (AV.str x)) (fun x : Int => (AV.int .i64 x)) r1))), none, (some (.mp g6 (mE (fun x : Str => (AV.str x)) (fun x : Int => (AV.int .i64 x)) r3))), none, (some (.mp g8 (mE (fun x : Str => (AV.str x)) (fun x : Int => (AV.int .i64 x)) r5))), (some (.mp g9 (mE (fun x : Str => (AV.str x)) (fun x : Int => (AV.int .i64 x)) r6))), none, none, (some (.rows g18 5 [(rSector a3)])), (ownO v5 g17 5 (List.map rSector x2)), none, (ownO v1 g13 3 (List.map rConfig r9)), none, (ownO v2 g14 5 (List.map rSegment r10)), (ownO v3 g15 7 (List.map rRoute r11)), (ownO v4 g16 8 (List.map rRule r12))] rfl ?_
      refine wr_draw hmix [[], [0], [], [], [], [4], [3, 4, 5], [0, 1, 1, 2, 2, 3, 4, 5, 6], [0, 1, 2, 3, 4, 5, 6, 7], [0, 1, 2, 3, 4, 5, 6, 7, 8]] [(false, 0), (false, 1), (false, 2), (false, 3), (false, 4), (false, 5), (true, 6), (false, 7), (false, 8), (true, 9)] (by kernel_rfl) ?_
      refine wp_val (.ptr (ix ids 0) g1 0 1) rfl rfl (pv_fa (fa_ptr (c := 0) (off := 1) (i := 1) ti31 rfl ti23 rfl)) ?_
      refine wp_val v5 rfl rfl (pv_load (ld_ptr hI rfl rfl rfl ti23 rfl)) ?_
      refine wp_val (.int .i64 (j1 : Int)) rfl rfl pv_move ?_
      refine wp_val (.map (ix ids 3) g3) rfl rfl pv_move ?_
      refine wp_val (.ptr (ix ids 12) g18 0 1) rfl rfl (pv_fa (fa_ptr (c := 0) (off := 1) (i := 1) ti53 rfl ti38 rfl)) ?_
      refine wp_val (.sl 1 (List.map rS a3.Names)) rfl rfl (pv_load (ld_ptr hI rfl rfl rfl ti38 rfl)) ?_
      refine wp_call [(.map (ix ids 3) g3), (.sl 1 (List.map rS a3.Names))] rfl rfl rfl rfl rfl ((cp_names_numbers_all r a3.Names (ix ids 3) g3) _ (hI.at rfl rfl)) (fun v _ fr hf => hU v fr _ _ _ _ _ rfl rfl rfl rfl ((hf 2 rfl).trans rfl) ((hf 3 rfl).trans rfl)) (pend_yes rfl (pend_yes rfl (pend_yes rfl (pend_no rfl pv_move (pend_no rfl (pv_load (ld_ptr hI rfl rfl rfl ti23 rfl)) (pend_no rfl (pv_fa (fa_ptr (c := 0) (off := 1) (i := 1) ti31 rfl ti23 rfl)) pend_nil)))))) fun r13 _ => ?_
      refine wp_val (.ptr (ix ids 13) g17 (j1 : Int).toNat 0) rfl rfl (pv_ixa (ixa_own hI rfl vH5 rfl ti23 ti53 rfl hz hx1)) ?_
      refine wp_val (.ptr (ix ids 13) g17 (j1 : Int).toNat 2) rfl rfl (pv_fa (fa_ptr (c := 0) (off := 2) (i := 2) ti53 rfl ti51 rfl)) ?_
      refine wp_op0 rfl (fun _ _ => rfl) (fun K hK => eff_store (st_own (y := { a3 with Volumes := r13 }) hI rfl rfl vH5 rfl hx1 ti51 rfl rfl rfl rfl rfl rfl) (hK _ _ (pend_yes rfl (pend_yes rfl (pend_yes rfl (pend_yes rfl (pend_yes rfl (pend_yes rfl (pend_yes rfl (pend_yes rfl pend_nil)))))))) ?_)) 
      clear hK K
      have vH6 := OwnV.set (i := (j1 : Int).toNat) (y := { a3 with Volumes := r13 }) vH5
      have hx2 := List.getElem?_set_self (a := { a3 with Volumes := r13 }) (lt_of_get hx1)
      refine wp_nil ?_
      refine wr_hp [(some (.rows g1 8 [[(.sl 2 (List.map rVolume a.Volumes)), v5, v1, v2, v3, (.sl 2 (List.map rAirport a.Airports)), (.sl 4 (List.map rClass a.Classes)), v4]])), (some (.rows g2 1 [[(.int .i64 0)]])), none, (some (.mp g3 (mE (fun x : Str => (AV.str x)) (fun x : Int => (AV.int .i64 x)) r))), (some (.mp g4 (mE (fun x : Str => (AV.str x)) (fun x : Int => (AV.int .i64 x)) r1))), none, (some (.mp g6 (mE (fun x : Str => (AV.str x)) (fun x : Int => (AV.int .i64 x)) r3))), none, (some (.mp g8 (mE (fun x : Str => (AV.str x)) (fun x : Int => (AV.int .i64 x)) r5))), (some (.mp g9 (mE (fun x : Str => (AV.str x)) (fun x : Int => (AV.int .i64 x)) r6))), none, none, (some (.rows g18 5 [(rSector a3)])), (ownO v5 g17 5 (List.map rSector (x2.set (j1 : Int).toNat { a3 with Volumes := r13 }))), none, (ownO v1 g13 3 (List.map rConfig r9)), none, (ownO v2 g14 5 (List.map rSegment r10)), (ownO v3 g15 7 (List.map rRoute r11)), (ownO v4 g16 8 (List.map rRule r12))] rfl ?_
      refine wr_inBlock ?_
      refine wr_region ?_
      refine wo_val (.int .i64 (IntKind.wrap .i64 ((j1 : Int) + 1))) rfl (pv_bin rfl rfl rfl) ?_
      refine wo_val (.int .i64 (IntKind.wrap .i64 ((j1 : Int) + 1))) rfl pv_move ?_
      refine wo_nil ?_
      refine wr_drop [(some (.rows g1 8 [[(.sl 2 (List.map rVolume a.Volumes)), v5, v1, v2, v3, (.sl 2 (List.map rAirport a.Airports)), (.sl 4 (List.map rClass a.Classes)), v4]])), (some (.rows g2 1 [[(.int .i64 0)]])), none, (some (.mp g3 (mE (fun x : Str => (AV.str x)) (fun x : Int => (AV.int .i64 x)) r))), (some (.mp g4 (mE (fun x : Str => (AV.str x)) (fun x : Int => (AV.int .i64 x)) r1))), none, (some (.mp g6 (mE (fun x : Str => (AV.str x)) (fun x : Int => (AV.int .i64 x)) r3))), none, (some (.mp g8 (mE (fun x : Str => (AV.str x)) (fun x : Int => (AV.int .i64 x)) r5))), (some (.mp g9 (mE (fun x : Str => (AV.str x)) (fun x : Int => (AV.int .i64 x)) r6))), none, none, none, (ownO v5 g17 5 (List.map rSector (x2.set (j1 : Int).toNat { a3 with Volumes := r13 }))), none, (ownO v1 g13 3 (List.map rConfig r9)), none, (ownO v2 g14 5 (List.map rSegment r10)), (ownO v3 g15 7 (List.map rRoute r11)), (ownO v4 g16 8 (List.map rRule r12))] hI rfl (.keep (.keep (.keep (.keep (.keep (.keep (.keep (.keep (.keep (.keep (.keep (.keep (.drop (.keep (.keep (.keep (.keep (.keep (.keep (.keep .nil)))))))))))))))))))) ?_
      refine wr_is [(2, (.ptr (ix ids 0) g1 0 0)), (3, (.ptr (ix ids 1) g2 0 0)), (4, (.map (ix ids 3) g3)), (5, (.map (ix ids 4) g4)), (6, (.map (ix ids 6) g6)), (7, (.map (ix ids 8) g8)), (8, (.map (ix ids 9) g9)), (76, v5), (77, (.int .i64 (r8.length : Int))), (78, (.int .i64 ((j1 + 1 : Nat) : Int)))] (.cons rfl (.cons rfl (.cons rfl (.cons rfl (.cons rfl (.cons rfl (.cons rfl (.cons rfl (.cons rfl (.cons (inc_ok (lt_of_get ha2) hlim1) .nil)))))))))) ?_
      refine wb_S ?_
      refine hW1 (x2.set (j1 : Int).toNat { a3 with Volumes := r13 }) _ _ ?_
      exact ⟨v5, g17, vH6, rfl, rfl⟩
    · rintro x2 fr h ⟨v5, g17, vH5, rfl, rfl⟩
      refine wr_seq ?_
      refine wr_region ?_
      refine wo_val (.bool (decide ((r8.length : Int) < (r8.length : Int)))) rfl (pv_bin rfl rfl rfl) ?_
      refine wo_nil ?_
      refine wr_seq ?_
      refine wr_condF rfl (Int.lt_irrefl _) ?_
      refine wr_exit rfl ?_
      refine wr_seq ?_
      refine wr_seq ?_
      refine wr_region ?_
      refine wo_val (.ptr (ix ids 0) g1 0 2) rfl (pv_fa (fa_ptr (c := 0) (off := 2) (i := 2) ti31 rfl ti24 rfl)) ?_
      refine wo_val v1 rfl (pv_load (ld_ptr hI rfl rfl rfl ti24 rfl)) ?_
      refine wo_val (.int .i64 (r9.length : Int)) rfl (pv_len (OwnV.len vH1 ti24)) ?_
      refine wo_val (.int .i64 0) rfl pv_move ?_
      refine wo_nil ?_
      refine wr_block ?_
      refine wr_limo (t := 94) rfl vH1 fun hlim2 => ?_
      refine wr_is [(2, (.ptr (ix ids 0) g1 0 0)), (3, (.ptr (ix ids 1) g2 0 0)), (4, (.map (ix ids 3) g3)), (5, (.map (ix ids 4) g4)), (6, (.map (ix ids 6) g6)), (7, (.map (ix ids 8) g8)), (8, (.map (ix ids 9) g9)), (94, v1), (95, (.int .i64 (r9.length : Int))), (96, (.int .i64 0))] (.cons rfl (.cons rfl (.cons rfl (.cons rfl (.cons rfl (.cons rfl (.cons rfl (.cons rfl (.cons rfl (.cons rfl .nil)))))))))) ?_
      refine wf_eachS' (P := Try.prog) r9 (fun j2 _ => fun x4 => names_Resolve_b3 r1 j2 x4) (((fun x4 => (eachS (fun j3 _ => fun x6 => names_Resolve_b4 r j3 x6) 0 r10 r10).bind ((fun x6 => (eachS (fun j4 _ => fun l => names_Resolve_b5 r3 r5 j4 l) 0 r11 r11).bind ((fun l => (eachS (fun j5 _ => fun l1 => names_Resolve_b6 r5 r6 j5 l1) 0 r12 r12).bind ((fun l1 => .ok (({ Volumes := a.Volumes, Sectors := x2, Configs := x4, Segments := x6, Routes := l, Airports := a.Airports, Classes := a.Classes, Rules := l1 } : Airspace), 0))))))))) : (List Config) → R (Airspace × Int))
        (fun j2 => fun x4 => fun (fr : Nat → AV) (h : AHeap) => ∃ (v6 : AV), ∃ (g19 : Nat), OwnV v6 (ix ids 15) g19 x4.length ∧ fr = frA [(2, (.ptr (ix ids 0) g1 0 0)), (3, (.ptr (ix ids 1) g2 0 0)), (4, (.map (ix ids 3) g3)), (5, (.map (ix ids 4) g4)), (6, (.map (ix ids 6) g6)), (7, (.map (ix ids 8) g8)), (8, (.map (ix ids 9) g9)), (94, v6), (95, (.int .i64 (r9.length : Int))), (96, (.int .i64 (j2 : Int)))] ∧ h = hp h0 ids [(some (.rows g1 8 [[(.sl 2 (List.map rVolume a.Volumes)), v5, v6, v2, v3, (.sl 2 (List.map rAirport a.Airports)), (.sl 4 (List.map rClass a.Classes)), v4]])), (some (.rows g2 1 [[(.int .i64 0)]])), none, (some (.mp g3 (mE (fun x : Str => (AV.str x)) (fun x : Int => (AV.int .i64 x)) r))), (some (.mp g4 (mE (fun x : Str => (AV.str x)) (fun x : Int => (AV.int .i64 x)) r1))), none, (some (.mp g6 (mE (fun x : Str => (AV.str x)) (fun x : Int => (AV.int .i64 x)) r3))), none, (some (.mp g8 (mE (fun x : Str => (AV.str x)) (fun x : Int => (AV.int .i64 x)) r5))), (some (.mp g9 (mE (fun x : Str => (AV.str x)) (fun x : Int => (AV.int .i64 x)) r6))), none, none, none, (ownO v5 g17 5 (List.map rSector x2)), none, (ownO v6 g19 3 (List.map rConfig x4)), none, (ownO v2 g14 5 (List.map rSegment r10)), (ownO v3 g15 7 (List.map rRoute r11)), (ownO v4 g16 8 (List.map rRule r12))]) r9 ?_ ?_ ?_
      · exact ⟨v1, g13, vH1, rfl, rfl⟩
      · rintro j2 a4 ha4 W hW2 x4 fr h ⟨v6, g19, vH7, rfl, rfl⟩
        refine wr_mod (m' := names_Resolve_b3 r1 j2 x4) rfl (wr_mod (names_Resolve_b3.eq_1 _ _ _) ?_)
        refine wr_seq ?_
        refine wr_region ?_
        refine wo_val (.bool (decide ((j2 : Int) < (r9.length : Int)))) rfl (pv_bin rfl rfl rfl) ?_
        refine wo_nil ?_
        refine wr_seq ?_
        refine wr_condT rfl (Int.ofNat_lt.2 (lt_of_get ha4)) ?_
        refine wr_skip ?_
        refine wr_seq ?_
        refine wr_block ?_
        refine wr_seq ?_
        refine wr_region ?_
        refine wo_val (.int .i64 (j2 : Int)) rfl pv_move ?_
        refine of_idx fun a5 hz1 hx3 => ?_
        refine wo_val (.ptr (ix ids 15) g19 (j2 : Int).toNat 0) rfl (pv_ixa (ixa_own hI rfl vH7 rfl ti24 ti55 rfl hz1 hx3)) ?_
        refine wo_val (.agg (rConfig a5)) rfl (pv_load (ld_own hI rfl vH7 rfl hx3 ti55 rfl)) ?_
        refine wo_alloc (j := 14) hI rfl rfl rfl rfl ti55 rfl fun g20 => ?_
        refine wo_val (.int .i64 (j2 : Int)) rfl pv_assign ?_
        refine wo_store (st_ptr hI rfl rfl rfl rfl ti55 rfl rfl rfl rfl rfl) ?_
        refine wo_nil ?_
        refine wr_hp [(some (.rows g1 8 [[(.sl 2 (List.map rVolume a.Volumes)), v5, v6, v2, v3, (.sl 2 (List.map rAirport a.Airports)), (.sl 4 (List.map rClass a.Classes)), v4]])), (some (.rows g2 1 [[(.int .i64 0)]])), none, (some (.mp g3 (mE (fun x : Str => (AV.str x)) (fun x : Int => (AV.int .i64 x)) r))), (some (.mp g4 (mE (fun x : Str => (AV.str x)) (fun x : Int => (AV.int .i64 x)) r1))), none, (some (.mp g6 (mE (fun x : Str => (AV.str x)) (fun x : Int => (AV.int .i64 x)) r3))), none, (some (.mp g8 (mE (fun x : Str => (AV.str x)) (fun x : Int => (AV.int .i64 x)) r5))), (some (.mp g9 (mE (fun x : Str => (AV.str x)) (fun x : Int => (AV.int .i64 x)) r6))), none, none, none, (ownO v5 g17 5 (List.map rSector x2)), (some (.rows g20 3 [(rConfig a5)])), (ownO v6 g19 3 (List.map rConfig x4)), none, (ownO v2 g14 5 (List.map rSegment r10)), (ownO v3 g15 7 (List.map rRoute r11)), (ownO v4 g16 8 (List.map rRule r12))] rfl ?_
        refine wr_draw hmix [[], [0], [], [], [], [4], [3, 4, 5], [0, 1, 1, 2, 2, 3, 4, 5, 6], [0, 1, 2, 3, 4, 5, 6, 7], [0, 1, 2, 3, 4, 5, 6, 7, 8]] [(false, 0), (false, 1), (false, 2), (false, 3), (false, 4), (false, 5), (true, 6), (false, 7), (false, 8), (true, 9)] (by kernel_rfl) ?_
        refine wp_val (.ptr (ix ids 0) g1 0 2) rfl rfl (pv_fa (fa_ptr (c := 0) (off := 2) (i := 2) ti31 rfl ti24 rfl)) ?_
        refine wp_val v6 rfl rfl (pv_load (ld_ptr hI rfl rfl rfl ti24 rfl)) ?_
        refine wp_val (.int .i64 (j2 : Int)) rfl rfl pv_move ?_
        refine wp_val (.map (ix ids 4) g4) rfl rfl pv_move ?_
        refine wp_val (.ptr (ix ids 14) g20 0 1) rfl rfl (pv_fa (fa_ptr (c := 0) (off := 1) (i := 1) ti55 rfl ti38 rfl)) ?_
        refine wp_val (.sl 1 (List.map rS a5.Names)) rfl rfl (pv_load (ld_ptr hI rfl rfl rfl ti38 rfl)) ?_
        refine wp_call [(.map (ix ids 4) g4), (.sl 1 (List.map rS a5.Names))] rfl rfl rfl rfl rfl ((cp_names_numbers_all r1 a5.Names (ix ids 4) g4) _ (hI.at rfl rfl)) (fun v _ fr hf => hU v fr _ _ _ _ _ rfl rfl rfl rfl ((hf 2 rfl).trans rfl) ((hf 3 rfl).trans rfl)) (pend_yes rfl (pend_yes rfl (pend_yes rfl (pend_no rfl pv_move (pend_no rfl (pv_load (ld_ptr hI rfl rfl rfl ti24 rfl)) (pend_no rfl (pv_fa (fa_ptr (c := 0) (off := 2) (i := 2) ti31 rfl ti24 rfl)) pend_nil)))))) fun r14 _ => ?_
        refine wp_val (.ptr (ix ids 15) g19 (j2 : Int).toNat 0) rfl rfl (pv_ixa (ixa_own hI rfl vH7 rfl ti24 ti55 rfl hz1 hx3)) ?_
        refine wp_val (.ptr (ix ids 15) g19 (j2 : Int).toNat 2) rfl rfl (pv_fa (fa_ptr (c := 0) (off := 2) (i := 2) ti55 rfl ti51 rfl)) ?_
        refine wp_op0 rfl (fun _ _ => rfl) (fun K hK => eff_store (st_own (y := { a5 with Sectors := r14 }) hI rfl rfl vH7 rfl hx3 ti51 rfl rfl rfl rfl rfl rfl) (hK _ _ (pend_yes rfl (pend_yes rfl (pend_yes rfl (pend_yes rfl (pend_yes rfl (pend_yes rfl (pend_yes rfl (pend_yes rfl pend_nil)))))))) ?_)) 
        clear hK K
        have vH8 := OwnV.set (i := (j2 : Int).toNat) (y := { a5 with Sectors := r14 }) vH7
        have hx4 := List.getElem?_set_self (a := { a5 with Sectors := r14 }) (lt_of_get hx3)
        refine wp_nil ?_
        refine wr_hp [(some (.rows g1 8 [[(.sl 2 (List.map rVolume a.Volumes)), v5, v6, v2, v3, (.sl 2 (List.map rAirport a.Airports)), (.sl 4 (List.map rClass a.Classes)), v4]])), (some (.rows g2 1 [[(.int .i64 0)]])), none, (some (.mp g3 (mE (fun x : Str => (AV.str x)) (fun x : Int => (AV.int .i64 x)) r))), (some (.mp g4 (mE (fun x : Str => (AV.str x)) (fun x : Int => (AV.int .i64 x)) r1))), none, (some (.mp g6 (mE (fun x : Str => (AV.str x)) (fun x : Int => (AV.int .i64 x)) r3))), none, (some (.mp g8 (mE (fun x : Str => (AV.str x)) (fun x : Int => (AV.int .i64 x)) r5))), (some (.mp g9 (mE (fun x : Str => (AV.str x)) (fun x : Int => (AV.int .i64 x)) r6))), none, none, none, (ownO v5 g17 5 (List.map rSector x2)), (some (.rows g20 3 [(rConfig a5)])), (ownO v6 g19 3 (List.map rConfig (x4.set (j2 : Int).toNat { a5 with Sectors := r14 }))), none, (ownO v2 g14 5 (List.map rSegment r10)), (ownO v3 g15 7 (List.map rRoute r11)), (ownO v4 g16 8 (List.map rRule r12))] rfl ?_
        refine wr_inBlock ?_
        refine wr_region ?_
        refine wo_val (.int .i64 (IntKind.wrap .i64 ((j2 : Int) + 1))) rfl (pv_bin rfl rfl rfl) ?_
        refine wo_val (.int .i64 (IntKind.wrap .i64 ((j2 : Int) + 1))) rfl pv_move ?_
        refine wo_nil ?_
        refine wr_drop [(some (.rows g1 8 [[(.sl 2 (List.map rVolume a.Volumes)), v5, v6, v2, v3, (.sl 2 (List.map rAirport a.Airports)), (.sl 4 (List.map rClass a.Classes)), v4]])), (some (.rows g2 1 [[(.int .i64 0)]])), none, (some (.mp g3 (mE (fun x : Str => (AV.str x)) (fun x : Int => (AV.int .i64 x)) r))), (some (.mp g4 (mE (fun x : Str => (AV.str x)) (fun x : Int => (AV.int .i64 x)) r1))), none, (some (.mp g6 (mE (fun x : Str => (AV.str x)) (fun x : Int => (AV.int .i64 x)) r3))), none, (some (.mp g8 (mE (fun x : Str => (AV.str x)) (fun x : Int => (AV.int .i64 x)) r5))), (some (.mp g9 (mE (fun x : Str => (AV.str x)) (fun x : Int => (AV.int .i64 x)) r6))), none, none, none, (ownO v5 g17 5 (List.map rSector x2)), none, (ownO v6 g19 3 (List.map rConfig (x4.set (j2 : Int).toNat { a5 with Sectors := r14 }))), none, (ownO v2 g14 5 (List.map rSegment r10)), (ownO v3 g15 7 (List.map rRoute r11)), (ownO v4 g16 8 (List.map rRule r12))] hI rfl (.keep (.keep (.keep (.keep (.keep (.keep (.keep (.keep (.keep (.keep (.keep (.keep (.keep (.keep (.drop (.keep (.keep (.keep (.keep (.keep .nil)))))))))))))))))))) ?_
        refine wr_is [(2, (.ptr (ix ids 0) g1 0 0)), (3, (.ptr (ix ids 1) g2 0 0)), (4, (.map (ix ids 3) g3)), (5, (.map (ix ids 4) g4)), (6, (.map (ix ids 6) g6)), (7, (.map (ix ids 8) g8)), (8, (.map (ix ids 9) g9)), (94, v6), (95, (.int .i64 (r9.length : Int))), (96, (.int .i64 ((j2 + 1 : Nat) : Int)))] (.cons rfl (.cons rfl (.cons rfl (.cons rfl (.cons rfl (.cons rfl (.cons rfl (.cons rfl (.cons rfl (.cons (inc_ok (lt_of_get ha4) hlim2) .nil)))))))))) ?_
        refine wb_S ?_
        refine hW2 (x4.set (j2 : Int).toNat { a5 with Sectors := r14 }) _ _ ?_
        exact ⟨v6, g19, vH8, rfl, rfl⟩
      · rintro x4 fr h ⟨v6, g19, vH7, rfl, rfl⟩
        refine wr_seq ?_
        refine wr_region ?_
        refine wo_val (.bool (decide ((r9.length : Int) < (r9.length : Int)))) rfl (pv_bin rfl rfl rfl) ?_
        refine wo_nil ?_
        refine wr_seq ?_
        refine wr_condF rfl (Int.lt_irrefl _) ?_
        refine wr_exit rfl ?_
        refine wr_seq ?_
        refine wr_seq ?_
        refine wr_region ?_
        refine wo_val (.ptr (ix ids 0) g1 0 3) rfl (pv_fa (fa_ptr (c := 0) (off := 3) (i := 3) ti31 rfl ti25 rfl)) ?_
        refine wo_val v2 rfl (pv_load (ld_ptr hI rfl rfl rfl ti25 rfl)) ?_
        refine wo_val (.int .i64 (r10.length : Int)) rfl (pv_len (OwnV.len vH2 ti25)) ?_
        refine wo_val (.int .i64 0) rfl pv_move ?_
        refine wo_nil ?_
        refine wr_block ?_
        refine wr_limo (t := 112) rfl vH2 fun hlim3 => ?_
        refine wr_drop [(some (.rows g1 8 [[(.sl 2 (List.map rVolume a.Volumes)), v5, v6, v2, v3, (.sl 2 (List.map rAirport a.Airports)), (.sl 4 (List.map rClass a.Classes)), v4]])), (some (.rows g2 1 [[(.int .i64 0)]])), none, (some (.mp g3 (mE (fun x : Str => (AV.str x)) (fun x : Int => (AV.int .i64 x)) r))), none, none, (some (.mp g6 (mE (fun x : Str => (AV.str x)) (fun x : Int => (AV.int .i64 x)) r3))), none, (some (.mp g8 (mE (fun x : Str => (AV.str x)) (fun x : Int => (AV.int .i64 x)) r5))), (some (.mp g9 (mE (fun x : Str => (AV.str x)) (fun x : Int => (AV.int .i64 x)) r6))), none, none, none, (ownO v5 g17 5 (List.map rSector x2)), none, (ownO v6 g19 3 (List.map rConfig x4)), none, (ownO v2 g14 5 (List.map rSegment r10)), (ownO v3 g15 7 (List.map rRoute r11)), (ownO v4 g16 8 (List.map rRule r12))] hI rfl (.keep (.keep (.keep (.keep (.drop (.keep (.keep (.keep (.keep (.keep (.keep (.keep (.keep (.keep (.keep (.keep (.keep (.keep (.keep (.keep .nil)))))))))))))))))))) ?_
        refine wr_is [(2, (.ptr (ix ids 0) g1 0 0)), (3, (.ptr (ix ids 1) g2 0 0)), (4, (.map (ix ids 3) g3)), (6, (.map (ix ids 6) g6)), (7, (.map (ix ids 8) g8)), (8, (.map (ix ids 9) g9)), (112, v2), (113, (.int .i64 (r10.length : Int))), (114, (.int .i64 0))] (.cons rfl (.cons rfl (.cons rfl (.cons rfl (.cons rfl (.cons rfl (.cons rfl (.cons rfl (.cons rfl .nil))))))))) ?_
        refine wf_eachS' (P := Try.prog) r10 (fun j3 _ => fun x6 => names_Resolve_b4 r j3 x6) (((fun x6 => (eachS (fun j4 _ => fun l => names_Resolve_b5 r3 r5 j4 l) 0 r11 r11).bind ((fun l => (eachS (fun j5 _ => fun l1 => names_Resolve_b6 r5 r6 j5 l1) 0 r12 r12).bind ((fun l1 => .ok (({ Volumes := a.Volumes, Sectors := x2, Configs := x4, Segments := x6, Routes := l, Airports := a.Airports, Classes := a.Classes, Rules := l1 } : Airspace), 0))))))) : (List Segment) → R (Airspace × Int))
          (fun j3 => fun x6 => fun (fr : Nat → AV) (h : AHeap) => ∃ (v7 : AV), ∃ (g21 : Nat), OwnV v7 (ix ids 17) g21 x6.length ∧ fr = frA [(2, (.ptr (ix ids 0) g1 0 0)), (3, (.ptr (ix ids 1) g2 0 0)), (4, (.map (ix ids 3) g3)), (6, (.map (ix ids 6) g6)), (7, (.map (ix ids 8) g8)), (8, (.map (ix ids 9) g9)), (112, v7), (113, (.int .i64 (r10.length : Int))), (114, (.int .i64 (j3 : Int)))] ∧ h = hp h0 ids [(some (.rows g1 8 [[(.sl 2 (List.map rVolume a.Volumes)), v5, v6, v7, v3, (.sl 2 (List.map rAirport a.Airports)), (.sl 4 (List.map rClass a.Classes)), v4]])), (some (.rows g2 1 [[(.int .i64 0)]])), none, (some (.mp g3 (mE (fun x : Str => (AV.str x)) (fun x : Int => (AV.int .i64 x)) r))), none, none, (some (.mp g6 (mE (fun x : Str => (AV.str x)) (fun x : Int => (AV.int .i64 x)) r3))), none, (some (.mp g8 (mE (fun x : Str => (AV.str x)) (fun x : Int => (AV.int .i64 x)) r5))), (some (.mp g9 (mE (fun x : Str => (AV.str x)) (fun x : Int => (AV.int .i64 x)) r6))), none, none, none, (ownO v5 g17 5 (List.map rSector x2)), none, (ownO v6 g19 3 (List.map rConfig x4)), none, (ownO v7 g21 5 (List.map rSegment x6)), (ownO v3 g15 7 (List.map rRoute r11)), (ownO v4 g16 8 (List.map rRule r12))]) r10 ?_ ?_ ?_
        · exact ⟨v2, g14, vH2, rfl, rfl⟩
        · rintro j3 a6 ha6 W hW3 x6 fr h ⟨v7, g21, vH9, rfl, rfl⟩
          refine wr_mod (m' := names_Resolve_b4 r j3 x6) rfl (wr_mod (names_Resolve_b4.eq_1 _ _ _) ?_)
          refine wr_seq ?_
          refine wr_region ?_
          refine wo_val (.bool (decide ((j3 : Int) < (r10.length : Int)))) rfl (pv_bin rfl rfl rfl) ?_
          refine wo_nil ?_
          refine wr_seq ?_
          refine wr_condT rfl (Int.ofNat_lt.2 (lt_of_get ha6)) ?_
          refine wr_skip ?_
          refine wr_seq ?_
          refine wr_block ?_
          refine wr_seq ?_
          refine wr_region ?_
          refine wo_val (.int .i64 (j3 : Int)) rfl pv_move ?_
          refine of_idx fun a7 hz2 hx5 => ?_
          refine wo_val (.ptr (ix ids 17) g21 (j3 : Int).toNat 0) rfl (pv_ixa (ixa_own hI rfl vH9 rfl ti25 ti57 rfl hz2 hx5)) ?_
          refine wo_val (.agg (rSegment a7)) rfl (pv_load (ld_own hI rfl vH9 rfl hx5 ti57 rfl)) ?_
          refine wo_alloc (j := 16) hI rfl rfl rfl rfl ti57 rfl fun g22 => ?_
          refine wo_val (.int .i64 (j3 : Int)) rfl pv_assign ?_
          refine wo_store (st_ptr hI rfl rfl rfl rfl ti57 rfl rfl rfl rfl rfl) ?_
          refine wo_nil ?_
          refine wr_hp [(some (.rows g1 8 [[(.sl 2 (List.map rVolume a.Volumes)), v5, v6, v7, v3, (.sl 2 (List.map rAirport a.Airports)), (.sl 4 (List.map rClass a.Classes)), v4]])), (some (.rows g2 1 [[(.int .i64 0)]])), none, (some (.mp g3 (mE (fun x : Str => (AV.str x)) (fun x : Int => (AV.int .i64 x)) r))), none, none, (some (.mp g6 (mE (fun x : Str => (AV.str x)) (fun x : Int => (AV.int .i64 x)) r3))), none, (some (.mp g8 (mE (fun x : Str => (AV.str x)) (fun x : Int => (AV.int .i64 x)) r5))), (some (.mp g9 (mE (fun x : Str => (AV.str x)) (fun x : Int => (AV.int .i64 x)) r6))), none, none, none, (ownO v5 g17 5 (List.map rSector x2)), none, (ownO v6 g19 3 (List.map rConfig x4)), (some (.rows g22 5 [(rSegment a7)])), (ownO v7 g21 5 (List.map rSegment x6)), (ownO v3 g15 7 (List.map rRoute r11)), (ownO v4 g16 8 (List.map rRule r12))] rfl ?_
          refine wr_draw hmix [[], [0], [], [], [], [4], [3, 4, 5], [0, 1, 1, 2, 2, 3, 4, 5, 6], [0, 1, 2, 3, 4, 5, 6, 7], [0, 1, 2, 3, 4, 5, 6, 7, 8]] [(false, 0), (false, 1), (false, 2), (false, 3), (false, 4), (false, 5), (true, 6), (false, 7), (false, 8), (true, 9)] (by kernel_rfl) ?_
          refine wp_val (.ptr (ix ids 0) g1 0 3) rfl rfl (pv_fa (fa_ptr (c := 0) (off := 3) (i := 3) ti31 rfl ti25 rfl)) ?_
          refine wp_val v7 rfl rfl (pv_load (ld_ptr hI rfl rfl rfl ti25 rfl)) ?_
          refine wp_val (.int .i64 (j3 : Int)) rfl rfl pv_move ?_
          refine wp_val (.map (ix ids 3) g3) rfl rfl pv_move ?_
          refine wp_val (.ptr (ix ids 16) g22 0 1) rfl rfl (pv_fa (fa_ptr (c := 0) (off := 1) (i := 1) ti57 rfl ti9 rfl)) ?_
          refine wp_val (.str a7.In) rfl rfl (pv_load (ld_ptr hI rfl rfl rfl ti9 rfl)) ?_
          refine wp_call [(.map (ix ids 3) g3), (.str a7.In)] rfl rfl rfl rfl rfl ((cp_names_numbers_of r a7.In (ix ids 3) g3) _ (hI.at rfl rfl)) (fun v _ fr hf => hU v fr _ _ _ _ _ rfl rfl rfl rfl ((hf 2 rfl).trans rfl) ((hf 3 rfl).trans rfl)) (pend_yes rfl (pend_yes rfl (pend_yes rfl (pend_no rfl pv_move (pend_no rfl (pv_load (ld_ptr hI rfl rfl rfl ti25 rfl)) (pend_no rfl (pv_fa (fa_ptr (c := 0) (off := 3) (i := 3) ti31 rfl ti25 rfl)) pend_nil)))))) fun r15 _ => ?_
          refine wp_val (.ptr (ix ids 17) g21 (j3 : Int).toNat 0) rfl rfl (pv_ixa (ixa_own hI rfl vH9 rfl ti25 ti57 rfl hz2 hx5)) ?_
          refine wp_val (.ptr (ix ids 17) g21 (j3 : Int).toNat 2) rfl rfl (pv_fa (fa_ptr (c := 0) (off := 2) (i := 2) ti57 rfl ti3 rfl)) ?_
          refine wp_op0 rfl (fun _ _ => rfl) (fun K hK => eff_store (st_own (y := { a7 with Volume := r15 }) hI rfl rfl vH9 rfl hx5 ti3 rfl rfl rfl rfl rfl rfl) (hK _ _ (pend_yes rfl (pend_yes rfl (pend_yes rfl (pend_yes rfl (pend_yes rfl (pend_yes rfl (pend_yes rfl (pend_yes rfl pend_nil)))))))) ?_)) 
          clear hK K
          have vH10 := OwnV.set (i := (j3 : Int).toNat) (y := { a7 with Volume := r15 }) vH9
          have hx6 := List.getElem?_set_self (a := { a7 with Volume := r15 }) (lt_of_get hx5)
          refine wp_nil ?_
          refine wr_hp [(some (.rows g1 8 [[(.sl 2 (List.map rVolume a.Volumes)), v5, v6, v7, v3, (.sl 2 (List.map rAirport a.Airports)), (.sl 4 (List.map rClass a.Classes)), v4]])), (some (.rows g2 1 [[(.int .i64 0)]])), none, (some (.mp g3 (mE (fun x : Str => (AV.str x)) (fun x : Int => (AV.int .i64 x)) r))), none, none, (some (.mp g6 (mE (fun x : Str => (AV.str x)) (fun x : Int => (AV.int .i64 x)) r3))), none, (some (.mp g8 (mE (fun x : Str => (AV.str x)) (fun x : Int => (AV.int .i64 x)) r5))), (some (.mp g9 (mE (fun x : Str => (AV.str x)) (fun x : Int => (AV.int .i64 x)) r6))), none, none, none, (ownO v5 g17 5 (List.map rSector x2)), none, (ownO v6 g19 3 (List.map rConfig x4)), (some (.rows g22 5 [(rSegment a7)])), (ownO v7 g21 5 (List.map rSegment (x6.set (j3 : Int).toNat { a7 with Volume := r15 }))), (ownO v3 g15 7 (List.map rRoute r11)), (ownO v4 g16 8 (List.map rRule r12))] rfl ?_
          refine wr_inBlock ?_
          refine wr_region ?_
          refine wo_val (.int .i64 (IntKind.wrap .i64 ((j3 : Int) + 1))) rfl (pv_bin rfl rfl rfl) ?_
          refine wo_val (.int .i64 (IntKind.wrap .i64 ((j3 : Int) + 1))) rfl pv_move ?_
          refine wo_nil ?_
          refine wr_drop [(some (.rows g1 8 [[(.sl 2 (List.map rVolume a.Volumes)), v5, v6, v7, v3, (.sl 2 (List.map rAirport a.Airports)), (.sl 4 (List.map rClass a.Classes)), v4]])), (some (.rows g2 1 [[(.int .i64 0)]])), none, (some (.mp g3 (mE (fun x : Str => (AV.str x)) (fun x : Int => (AV.int .i64 x)) r))), none, none, (some (.mp g6 (mE (fun x : Str => (AV.str x)) (fun x : Int => (AV.int .i64 x)) r3))), none, (some (.mp g8 (mE (fun x : Str => (AV.str x)) (fun x : Int => (AV.int .i64 x)) r5))), (some (.mp g9 (mE (fun x : Str => (AV.str x)) (fun x : Int => (AV.int .i64 x)) r6))), none, none, none, (ownO v5 g17 5 (List.map rSector x2)), none, (ownO v6 g19 3 (List.map rConfig x4)), none, (ownO v7 g21 5 (List.map rSegment (x6.set (j3 : Int).toNat { a7 with Volume := r15 }))), (ownO v3 g15 7 (List.map rRoute r11)), (ownO v4 g16 8 (List.map rRule r12))] hI rfl (.keep (.keep (.keep (.keep (.keep (.keep (.keep (.keep (.keep (.keep (.keep (.keep (.keep (.keep (.keep (.keep (.drop (.keep (.keep (.keep .nil)))))))))))))))))))) ?_
          refine wr_is [(2, (.ptr (ix ids 0) g1 0 0)), (3, (.ptr (ix ids 1) g2 0 0)), (4, (.map (ix ids 3) g3)), (6, (.map (ix ids 6) g6)), (7, (.map (ix ids 8) g8)), (8, (.map (ix ids 9) g9)), (112, v7), (113, (.int .i64 (r10.length : Int))), (114, (.int .i64 ((j3 + 1 : Nat) : Int)))] (.cons rfl (.cons rfl (.cons rfl (.cons rfl (.cons rfl (.cons rfl (.cons rfl (.cons rfl (.cons (inc_ok (lt_of_get ha6) hlim3) .nil))))))))) ?_
          refine wb_S ?_
          refine hW3 (x6.set (j3 : Int).toNat { a7 with Volume := r15 }) _ _ ?_
          exact ⟨v7, g21, vH10, rfl, rfl⟩
        · rintro x6 fr h ⟨v7, g21, vH9, rfl, rfl⟩
          refine wr_seq ?_
          refine wr_region ?_
          refine wo_val (.bool (decide ((r10.length : Int) < (r10.length : Int)))) rfl (pv_bin rfl rfl rfl) ?_
          refine wo_nil ?_
          refine wr_seq ?_
          refine wr_condF rfl (Int.lt_irrefl _) ?_
          refine wr_exit rfl ?_
          refine wr_seq ?_
          refine wr_seq ?_
          refine wr_region ?_
          refine wo_val (.ptr (ix ids 0) g1 0 4) rfl (pv_fa (fa_ptr (c := 0) (off := 4) (i := 4) ti31 rfl ti26 rfl)) ?_
          refine wo_val v3 rfl (pv_load (ld_ptr hI rfl rfl rfl ti26 rfl)) ?_
          refine wo_val (.int .i64 (r11.length : Int)) rfl (pv_len (OwnV.len vH3 ti26)) ?_
          refine wo_val (.int .i64 0) rfl pv_move ?_
          refine wo_nil ?_
          refine wr_block ?_
          refine wr_limo (t := 130) rfl vH3 fun hlim4 => ?_
          refine wr_drop [(some (.rows g1 8 [[(.sl 2 (List.map rVolume a.Volumes)), v5, v6, v7, v3, (.sl 2 (List.map rAirport a.Airports)), (.sl 4 (List.map rClass a.Classes)), v4]])), (some (.rows g2 1 [[(.int .i64 0)]])), none, none, none, none, (some (.mp g6 (mE (fun x : Str => (AV.str x)) (fun x : Int => (AV.int .i64 x)) r3))), none, (some (.mp g8 (mE (fun x : Str => (AV.str x)) (fun x : Int => (AV.int .i64 x)) r5))), (some (.mp g9 (mE (fun x : Str => (AV.str x)) (fun x : Int => (AV.int .i64 x)) r6))), none, none, none, (ownO v5 g17 5 (List.map rSector x2)), none, (ownO v6 g19 3 (List.map rConfig x4)), none, (ownO v7 g21 5 (List.map rSegment x6)), (ownO v3 g15 7 (List.map rRoute r11)), (ownO v4 g16 8 (List.map rRule r12))] hI rfl (.keep (.keep (.keep (.drop (.keep (.keep (.keep (.keep (.keep (.keep (.keep (.keep (.keep (.keep (.keep (.keep (.keep (.keep (.keep (.keep .nil)))))))))))))))))))) ?_
          refine wr_is [(2, (.ptr (ix ids 0) g1 0 0)), (3, (.ptr (ix ids 1) g2 0 0)), (6, (.map (ix ids 6) g6)), (7, (.map (ix ids 8) g8)), (8, (.map (ix ids 9) g9)), (131, (.int .i64 (r11.length : Int))), (132, (.int .i64 0))] (.cons rfl (.cons rfl (.cons rfl (.cons rfl (.cons rfl (.cons rfl (.cons rfl .nil))))))) ?_
          refine wf_eachS' (P := Try.prog) r11 (fun j4 _ => fun l => names_Resolve_b5 r3 r5 j4 l) (((fun l => (eachS (fun j5 _ => fun l1 => names_Resolve_b6 r5 r6 j5 l1) 0 r12 r12).bind ((fun l1 => .ok (({ Volumes := a.Volumes, Sectors := x2, Configs := x4, Segments := x6, Routes := l, Airports := a.Airports, Classes := a.Classes, Rules := l1 } : Airspace), 0))))) : (List Route) → R (Airspace × Int))
            (fun j4 => fun l => fun (fr : Nat → AV) (h : AHeap) => ∃ (v8 : AV), ∃ (g23 : Nat), OwnV v8 (ix ids 18) g23 l.length ∧ fr = frA [(2, (.ptr (ix ids 0) g1 0 0)), (3, (.ptr (ix ids 1) g2 0 0)), (6, (.map (ix ids 6) g6)), (7, (.map (ix ids 8) g8)), (8, (.map (ix ids 9) g9)), (131, (.int .i64 (r11.length : Int))), (132, (.int .i64 (j4 : Int)))] ∧ h = hp h0 ids [(some (.rows g1 8 [[(.sl 2 (List.map rVolume a.Volumes)), v5, v6, v7, v8, (.sl 2 (List.map rAirport a.Airports)), (.sl 4 (List.map rClass a.Classes)), v4]])), (some (.rows g2 1 [[(.int .i64 0)]])), none, none, none, none, (some (.mp g6 (mE (fun x : Str => (AV.str x)) (fun x : Int => (AV.int .i64 x)) r3))), none, (some (.mp g8 (mE (fun x : Str => (AV.str x)) (fun x : Int => (AV.int .i64 x)) r5))), (some (.mp g9 (mE (fun x : Str => (AV.str x)) (fun x : Int => (AV.int .i64 x)) r6))), none, none, none, (ownO v5 g17 5 (List.map rSector x2)), none, (ownO v6 g19 3 (List.map rConfig x4)), none, (ownO v7 g21 5 (List.map rSegment x6)), (ownO v8 g23 7 (List.map rRoute l)), (ownO v4 g16 8 (List.map rRule r12))]) r11 ?_ ?_ ?_
          · exact ⟨v3, g15, vH3, rfl, rfl⟩
          · rintro j4 a8 ha8 W hW4 l fr h ⟨v8, g23, vH11, rfl, rfl⟩
            refine wr_mod (m' := names_Resolve_b5 r3 r5 j4 l) rfl (wr_mod (names_Resolve_b5.eq_1 _ _ _ _) ?_)
            refine wr_seq ?_
            refine wr_region ?_
            refine wo_val (.bool (decide ((j4 : Int) < (r11.length : Int)))) rfl (pv_bin rfl rfl rfl) ?_
            refine wo_nil ?_
            refine wr_seq ?_
            refine wr_condT rfl (Int.ofNat_lt.2 (lt_of_get ha8)) ?_
            refine wr_skip ?_
            refine wr_seq ?_
            refine wr_block ?_
            refine wr_seq ?_
            refine wr_region ?_
            refine wo_val (.int .i64 (j4 : Int)) rfl pv_move ?_
            refine wo_val (.int .i64 (j4 : Int)) rfl pv_assign ?_
            refine wo_nil ?_
            refine wr_seq ?_
            refine wr_region ?_
            refine wo_val (.ptr (ix ids 0) g1 0 4) rfl (pv_fa (fa_ptr (c := 0) (off := 4) (i := 4) ti31 rfl ti26 rfl)) ?_
            refine wo_val v8 rfl (pv_load (ld_ptr hI rfl rfl rfl ti26 rfl)) ?_
            refine wo_val (.int .i64 (j4 : Int)) rfl pv_move ?_
            refine of_idx fun a9 hz3 hx7 => ?_
            refine wo_val (.ptr (ix ids 18) g23 (j4 : Int).toNat 0) rfl (pv_ixa (ixa_own hI rfl vH11 rfl ti26 ti59 rfl hz3 hx7)) ?_
            refine wo_val (.ptr (ix ids 18) g23 (j4 : Int).toNat 0) rfl pv_assign ?_
            refine wo_nil ?_
            refine wr_draw hmix [[], [], [], [], [], [4], [4, 5], [4, 5, 6], [3, 4, 5, 6, 7], [], [], [10], [10, 11], [10, 11, 12], [3, 4, 5, 6, 7, 8, 9, 10, 11, 12, 13], [], [], [16], [16, 17], [16, 17, 18], [3, 4, 5, 6, 7, 8, 9, 10, 11, 12, 13, 14, 15, 16, 17, 18, 19], [0, 3, 4, 5, 6, 7, 8, 9, 10, 11, 12, 13, 14, 15, 16, 17, 18, 19, 20], [0, 3, 4, 5, 6, 7, 8, 9, 10, 11, 12, 13, 14, 15, 16, 17, 18, 19, 20, 21], [0, 3, 4, 5, 6, 7, 8, 9, 10, 11, 12, 13, 14, 15, 16, 17, 18, 19, 20, 21, 22], [0, 1, 3, 4, 5, 6, 7, 8, 9, 10, 11, 12, 13, 14, 15, 16, 17, 18, 19, 20, 21, 22, 23], [0, 1, 3, 4, 5, 6, 7, 8, 9, 10, 11, 12, 13, 14, 15, 16, 17, 18, 19, 20, 21, 22, 23, 24], [0, 1, 3, 4, 5, 6, 7, 8, 9, 10, 11, 12, 13, 14, 15, 16, 17, 18, 19, 20, 21, 22, 23, 24, 25], [0, 1, 2, 2, 3, 4, 5, 6, 7, 8, 9, 10, 11, 12, 13, 14, 15, 16, 17, 18, 19, 20, 21, 22, 23, 24, 25, 26], [0, 1, 2, 3, 4, 5, 6, 7, 8, 9, 10, 11, 12, 13, 14, 15, 16, 17, 18, 19, 20, 21, 22, 23, 24, 25, 26, 27], [0, 1, 2, 3, 4, 5, 6, 7, 8, 9, 10, 11, 12, 13, 14, 15, 16, 17, 18, 19, 20, 21, 22, 23, 24, 25, 26, 27, 28]] [(false, 0), (false, 1), (false, 2), (false, 3), (false, 4), (false, 5), (false, 6), (false, 7), (false, 9), (false, 10), (false, 11), (false, 12), (false, 13), (false, 15), (false, 16), (false, 17), (false, 18), (false, 19), (true, 8), (true, 14), (true, 20), (false, 21), (false, 22), (true, 23), (false, 24), (false, 25), (true, 26), (false, 27), (false, 28), (true, 29)] (by kernel_rfl) ?_
            refine wp_val (.ptr (ix ids 18) g23 (j4 : Int).toNat 0) rfl rfl pv_move ?_
            refine wp_val (.ptr (ix ids 18) g23 (j4 : Int).toNat 0) rfl rfl pv_move ?_
            refine wp_val (.ptr (ix ids 18) g23 (j4 : Int).toNat 0) rfl rfl pv_move ?_
            refine wp_val (.map (ix ids 8) g8) rfl rfl pv_move ?_
            refine wp_val (.ptr (ix ids 18) g23 (j4 : Int).toNat 0) rfl rfl pv_move ?_
            refine wp_val (.ptr (ix ids 18) g23 (j4 : Int).toNat 0) rfl rfl (pv_nilCheck rfl) ?_
            refine wp_val (.ptr (ix ids 18) g23 (j4 : Int).toNat 1) rfl rfl (pv_fa (fa_ptr (c := 0) (off := 1) (i := 1) ti59 rfl ti9 rfl)) ?_
            refine wp_val (.str a9.A) rfl rfl (pv_load (ld_own hI rfl vH11 rfl hx7 ti9 rfl)) ?_
            refine wp_val (.map (ix ids 8) g8) rfl rfl pv_move ?_
            refine wp_val (.ptr (ix ids 18) g23 (j4 : Int).toNat 0) rfl rfl pv_move ?_
            refine wp_val (.ptr (ix ids 18) g23 (j4 : Int).toNat 0) rfl rfl (pv_nilCheck rfl) ?_
            refine wp_val (.ptr (ix ids 18) g23 (j4 : Int).toNat 2) rfl rfl (pv_fa (fa_ptr (c := 0) (off := 2) (i := 2) ti59 rfl ti9 rfl)) ?_
            refine wp_val (.str a9.B) rfl rfl (pv_load (ld_own hI rfl vH11 rfl hx7 ti9 rfl)) ?_
            refine wp_val (.map (ix ids 6) g6) rfl rfl pv_move ?_
            refine wp_val (.ptr (ix ids 18) g23 (j4 : Int).toNat 0) rfl rfl pv_move ?_
            refine wp_val (.ptr (ix ids 18) g23 (j4 : Int).toNat 0) rfl rfl (pv_nilCheck rfl) ?_
            refine wp_val (.ptr (ix ids 18) g23 (j4 : Int).toNat 5) rfl rfl (pv_fa (fa_ptr (c := 0) (off := 5) (i := 5) ti59 rfl ti38 rfl)) ?_
            refine wp_val (.sl 1 (List.map rS a9.Names)) rfl rfl (pv_load (ld_own hI rfl vH11 rfl hx7 ti38 rfl)) ?_
            refine wp_call [(.map (ix ids 8) g8), (.str a9.A)] rfl rfl rfl rfl rfl ((cp_names_numbers_of r5 a9.A (ix ids 8) g8) _ (hI.at rfl rfl)) (fun v _ fr hf => hU v fr _ _ _ _ _ rfl rfl rfl rfl ((hf 2 rfl).trans rfl) ((hf 3 rfl).trans rfl)) (pend_no rfl (pv_load (ld_own hI rfl vH11 rfl hx7 ti38 rfl)) (pend_no rfl (pv_fa (fa_ptr (c := 0) (off := 5) (i := 5) ti59 rfl ti38 rfl)) (pend_no rfl (pv_nilCheck rfl) (pend_no rfl pv_move (pend_no rfl pv_move (pend_no rfl (pv_load (ld_own hI rfl vH11 rfl hx7 ti9 rfl)) (pend_no rfl (pv_fa (fa_ptr (c := 0) (off := 2) (i := 2) ti59 rfl ti9 rfl)) (pend_no rfl (pv_nilCheck rfl) (pend_no rfl pv_move (pend_no rfl pv_move (pend_yes rfl (pend_yes rfl (pend_yes rfl (pend_yes rfl (pend_yes rfl (pend_no rfl pv_move (pend_no rfl pv_move (pend_no rfl pv_move pend_nil)))))))))))))))))) fun r16 _ => ?_
            refine wp_call [(.map (ix ids 8) g8), (.str a9.B)] rfl rfl rfl rfl rfl ((cp_names_numbers_of r5 a9.B (ix ids 8) g8) _ (hI.at rfl rfl)) (fun v _ fr hf => hU v fr _ _ _ _ _ rfl rfl rfl rfl ((hf 2 rfl).trans rfl) ((hf 3 rfl).trans rfl)) (pend_no rfl (pv_load (ld_own hI rfl vH11 rfl hx7 ti38 rfl)) (pend_no rfl (pv_fa (fa_ptr (c := 0) (off := 5) (i := 5) ti59 rfl ti38 rfl)) (pend_no rfl (pv_nilCheck rfl) (pend_no rfl pv_move (pend_no rfl pv_move (pend_yes rfl (pend_yes rfl (pend_yes rfl (pend_yes rfl (pend_yes rfl (pend_yes rfl (pend_yes rfl (pend_yes rfl (pend_yes rfl (pend_yes rfl (pend_no rfl pv_move (pend_no rfl pv_move (pend_no rfl pv_move pend_nil)))))))))))))))))) fun r17 _ => ?_
            refine wp_call [(.map (ix ids 6) g6), (.sl 1 (List.map rS a9.Names))] rfl rfl rfl rfl rfl ((cp_names_numbers_all r3 a9.Names (ix ids 6) g6) _ (hI.at rfl rfl)) (fun v _ fr hf => hU v fr _ _ _ _ _ rfl rfl rfl rfl ((hf 2 rfl).trans rfl) ((hf 3 rfl).trans rfl)) (pend_yes rfl (pend_yes rfl (pend_yes rfl (pend_yes rfl (pend_yes rfl (pend_yes rfl (pend_yes rfl (pend_yes rfl (pend_yes rfl (pend_yes rfl (pend_yes rfl (pend_yes rfl (pend_yes rfl (pend_yes rfl (pend_yes rfl (pend_no rfl pv_move (pend_no rfl pv_move (pend_no rfl pv_move pend_nil)))))))))))))))))) fun r18 _ => ?_
            refine wp_val (.ptr (ix ids 18) g23 (j4 : Int).toNat 0) rfl rfl (pv_nilCheck rfl) ?_
            refine wp_val (.ptr (ix ids 18) g23 (j4 : Int).toNat 3) rfl rfl (pv_fa (fa_ptr (c := 0) (off := 3) (i := 3) ti59 rfl ti3 rfl)) ?_
            refine wp_op0 rfl (fun _ _ => rfl) (fun K hK => eff_store (st_own (y := { a9 with From := r16 }) hI rfl rfl vH11 rfl hx7 ti3 rfl rfl rfl rfl rfl rfl) (hK _ _ (pend_yes rfl (pend_yes rfl (pend_yes rfl (pend_yes rfl (pend_yes rfl (pend_yes rfl (pend_yes rfl (pend_yes rfl (pend_yes rfl (pend_yes rfl (pend_yes rfl (pend_yes rfl (pend_yes rfl (pend_yes rfl (pend_yes rfl (pend_yes rfl (pend_yes rfl (pend_no rfl pv_move (pend_no rfl pv_move (pend_yes rfl pend_nil)))))))))))))))))))) ?_)) 
            clear hK K
            have vH12 := OwnV.set (i := (j4 : Int).toNat) (y := { a9 with From := r16 }) vH11
            have hx8 := List.getElem?_set_self (a := { a9 with From := r16 }) (lt_of_get hx7)
            refine wp_val (.ptr (ix ids 18) g23 (j4 : Int).toNat 0) rfl rfl (pv_nilCheck rfl) ?_
            refine wp_val (.ptr (ix ids 18) g23 (j4 : Int).toNat 4) rfl rfl (pv_fa (fa_ptr (c := 0) (off := 4) (i := 4) ti59 rfl ti3 rfl)) ?_
            refine wp_op0 rfl (fun _ _ => rfl) (fun K hK => eff_store (st_own (y := { { a9 with From := r16 } with To := r17 }) hI rfl rfl vH12 rfl hx8 ti3 rfl rfl rfl rfl rfl rfl) (hK _ _ (pend_yes rfl (pend_yes rfl (pend_yes rfl (pend_yes rfl (pend_yes rfl (pend_yes rfl (pend_yes rfl (pend_yes rfl (pend_yes rfl (pend_yes rfl (pend_yes rfl (pend_yes rfl (pend_yes rfl (pend_yes rfl (pend_yes rfl (pend_yes rfl (pend_yes rfl (pend_yes rfl (pend_yes rfl (pend_no rfl pv_move (pend_yes rfl (pend_yes rfl pend_nil)))))))))))))))))))))) ?_)) 
            clear hK K
            have vH13 := OwnV.set (i := (j4 : Int).toNat) (y := { { a9 with From := r16 } with To := r17 }) vH12
            have hx9 := List.getElem?_set_self (a := { { a9 with From := r16 } with To := r17 }) (lt_of_get hx8)
            refine wp_val (.ptr (ix ids 18) g23 (j4 : Int).toNat 0) rfl rfl (pv_nilCheck rfl) ?_
            refine wp_val (.ptr (ix ids 18) g23 (j4 : Int).toNat 6) rfl rfl (pv_fa (fa_ptr (c := 0) (off := 6) (i := 6) ti59 rfl ti51 rfl)) ?_
            refine wp_op0 rfl (fun _ _ => rfl) (fun K hK => eff_store (st_own (y := { { { a9 with From := r16 } with To := r17 } with Segments := r18 }) hI rfl rfl vH13 rfl hx9 ti51 rfl rfl rfl rfl rfl rfl) (hK _ _ (pend_yes rfl (pend_yes rfl (pend_yes rfl (pend_yes rfl (pend_yes rfl (pend_yes rfl (pend_yes rfl (pend_yes rfl (pend_yes rfl (pend_yes rfl (pend_yes rfl (pend_yes rfl (pend_yes rfl (pend_yes rfl (pend_yes rfl (pend_yes rfl (pend_yes rfl (pend_yes rfl (pend_yes rfl (pend_yes rfl (pend_yes rfl (pend_yes rfl (pend_yes rfl (pend_yes rfl pend_nil)))))))))))))))))))))))) ?_)) 
            clear hK K
            have vH14 := OwnV.set (i := (j4 : Int).toNat) (y := { { { a9 with From := r16 } with To := r17 } with Segments := r18 }) vH13
            have hx10 := List.getElem?_set_self (a := { { { a9 with From := r16 } with To := r17 } with Segments := r18 }) (lt_of_get hx9)
            refine wp_nil ?_
            refine wr_hp [(some (.rows g1 8 [[(.sl 2 (List.map rVolume a.Volumes)), v5, v6, v7, v8, (.sl 2 (List.map rAirport a.Airports)), (.sl 4 (List.map rClass a.Classes)), v4]])), (some (.rows g2 1 [[(.int .i64 0)]])), none, none, none, none, (some (.mp g6 (mE (fun x : Str => (AV.str x)) (fun x : Int => (AV.int .i64 x)) r3))), none, (some (.mp g8 (mE (fun x : Str => (AV.str x)) (fun x : Int => (AV.int .i64 x)) r5))), (some (.mp g9 (mE (fun x : Str => (AV.str x)) (fun x : Int => (AV.int .i64 x)) r6))), none, none, none, (ownO v5 g17 5 (List.map rSector x2)), none, (ownO v6 g19 3 (List.map rConfig x4)), none, (ownO v7 g21 5 (List.map rSegment x6)), (ownO v8 g23 7 (List.map rRoute (((l.set (j4 : Int).toNat { a9 with From := r16 }).set (j4 : Int).toNat { { a9 with From := r16 } with To := r17 }).set (j4 : Int).toNat { { { a9 with From := r16 } with To := r17 } with Segments := r18 }))), (ownO v4 g16 8 (List.map rRule r12))] rfl ?_
            refine wr_inBlock ?_
            refine wr_region ?_
            refine wo_val (.int .i64 (IntKind.wrap .i64 ((j4 : Int) + 1))) rfl (pv_bin rfl rfl rfl) ?_
            refine wo_val (.int .i64 (IntKind.wrap .i64 ((j4 : Int) + 1))) rfl pv_move ?_
            refine wo_nil ?_
            refine wr_is [(2, (.ptr (ix ids 0) g1 0 0)), (3, (.ptr (ix ids 1) g2 0 0)), (6, (.map (ix ids 6) g6)), (7, (.map (ix ids 8) g8)), (8, (.map (ix ids 9) g9)), (131, (.int .i64 (r11.length : Int))), (132, (.int .i64 ((j4 + 1 : Nat) : Int)))] (.cons rfl (.cons rfl (.cons rfl (.cons rfl (.cons rfl (.cons rfl (.cons (inc_ok (lt_of_get ha8) hlim4) .nil))))))) ?_
            refine wb_S ?_
            refine hW4 (((l.set (j4 : Int).toNat { a9 with From := r16 }).set (j4 : Int).toNat { { a9 with From := r16 } with To := r17 }).set (j4 : Int).toNat { { { a9 with From := r16 } with To := r17 } with Segments := r18 }) _ _ ?_
            exact ⟨v8, g23, vH14, rfl, rfl⟩
          · rintro l fr h ⟨v8, g23, vH11, rfl, rfl⟩
            refine wr_seq ?_
            refine wr_region ?_
            refine wo_val (.bool (decide ((r11.length : Int) < (r11.length : Int)))) rfl (pv_bin rfl rfl rfl) ?_
            refine wo_nil ?_
            refine wr_seq ?_
            refine wr_condF rfl (Int.lt_irrefl _) ?_
            refine wr_exit rfl ?_
            refine wr_seq ?_
            refine wr_seq ?_
            refine wr_region ?_
            refine wo_val (.ptr (ix ids 0) g1 0 7) rfl (pv_fa (fa_ptr (c := 0) (off := 7) (i := 7) ti31 rfl ti29 rfl)) ?_
            refine wo_val v4 rfl (pv_load (ld_ptr hI rfl rfl rfl ti29 rfl)) ?_
            refine wo_val (.int .i64 (r12.length : Int)) rfl (pv_len (OwnV.len vH4 ti29)) ?_
            refine wo_val (.int .i64 0) rfl pv_move ?_
            refine wo_nil ?_
            refine wr_block ?_
            refine wr_limo (t := 168) rfl vH4 fun hlim5 => ?_
            refine wr_drop [(some (.rows g1 8 [[(.sl 2 (List.map rVolume a.Volumes)), v5, v6, v7, v8, (.sl 2 (List.map rAirport a.Airports)), (.sl 4 (List.map rClass a.Classes)), v4]])), (some (.rows g2 1 [[(.int .i64 0)]])), none, none, none, none, none, none, (some (.mp g8 (mE (fun x : Str => (AV.str x)) (fun x : Int => (AV.int .i64 x)) r5))), (some (.mp g9 (mE (fun x : Str => (AV.str x)) (fun x : Int => (AV.int .i64 x)) r6))), none, none, none, (ownO v5 g17 5 (List.map rSector x2)), none, (ownO v6 g19 3 (List.map rConfig x4)), none, (ownO v7 g21 5 (List.map rSegment x6)), (ownO v8 g23 7 (List.map rRoute l)), (ownO v4 g16 8 (List.map rRule r12))] hI rfl (.keep (.keep (.keep (.keep (.keep (.keep (.drop (.keep (.keep (.keep (.keep (.keep (.keep (.keep (.keep (.keep (.keep (.keep (.keep (.keep .nil)))))))))))))))))))) ?_
            refine wr_is [(2, (.ptr (ix ids 0) g1 0 0)), (3, (.ptr (ix ids 1) g2 0 0)), (7, (.map (ix ids 8) g8)), (8, (.map (ix ids 9) g9)), (169, (.int .i64 (r12.length : Int))), (170, (.int .i64 0))] (.cons rfl (.cons rfl (.cons rfl (.cons rfl (.cons rfl (.cons rfl .nil)))))) ?_
            refine wf_eachS' (P := Try.prog) r12 (fun j5 _ => fun l1 => names_Resolve_b6 r5 r6 j5 l1) (((fun l1 => .ok (({ Volumes := a.Volumes, Sectors := x2, Configs := x4, Segments := x6, Routes := l, Airports := a.Airports, Classes := a.Classes, Rules := l1 } : Airspace), 0))) : (List Rule) → R (Airspace × Int))
              (fun j5 => fun l1 => fun (fr : Nat → AV) (h : AHeap) => ∃ (v9 : AV), ∃ (g24 : Nat), OwnV v9 (ix ids 19) g24 l1.length ∧ fr = frA [(2, (.ptr (ix ids 0) g1 0 0)), (3, (.ptr (ix ids 1) g2 0 0)), (7, (.map (ix ids 8) g8)), (8, (.map (ix ids 9) g9)), (169, (.int .i64 (r12.length : Int))), (170, (.int .i64 (j5 : Int)))] ∧ h = hp h0 ids [(some (.rows g1 8 [[(.sl 2 (List.map rVolume a.Volumes)), v5, v6, v7, v8, (.sl 2 (List.map rAirport a.Airports)), (.sl 4 (List.map rClass a.Classes)), v9]])), (some (.rows g2 1 [[(.int .i64 0)]])), none, none, none, none, none, none, (some (.mp g8 (mE (fun x : Str => (AV.str x)) (fun x : Int => (AV.int .i64 x)) r5))), (some (.mp g9 (mE (fun x : Str => (AV.str x)) (fun x : Int => (AV.int .i64 x)) r6))), none, none, none, (ownO v5 g17 5 (List.map rSector x2)), none, (ownO v6 g19 3 (List.map rConfig x4)), none, (ownO v7 g21 5 (List.map rSegment x6)), (ownO v8 g23 7 (List.map rRoute l)), (ownO v9 g24 8 (List.map rRule l1))]) r12 ?_ ?_ ?_
            · exact ⟨v4, g16, vH4, rfl, rfl⟩
            · rintro j5 a10 ha10 W hW5 l1 fr h ⟨v9, g24, vH15, rfl, rfl⟩
              refine wr_mod (m' := names_Resolve_b6 r5 r6 j5 l1) rfl (wr_mod (names_Resolve_b6.eq_1 _ _ _ _) ?_)
              refine wr_seq ?_
              refine wr_region ?_
              refine wo_val (.bool (decide ((j5 : Int) < (r12.length : Int)))) rfl (pv_bin rfl rfl rfl) ?_
              refine wo_nil ?_
              refine wr_seq ?_
              refine wr_condT rfl (Int.ofNat_lt.2 (lt_of_get ha10)) ?_
              refine wr_skip ?_
              refine wr_seq ?_
              refine wr_block ?_
              refine wr_seq ?_
              refine wr_region ?_
              refine wo_val (.int .i64 (j5 : Int)) rfl pv_move ?_
              refine wo_val (.int .i64 (j5 : Int)) rfl pv_assign ?_
              refine wo_nil ?_
              refine wr_seq ?_
              refine wr_region ?_
              refine wo_val (.ptr (ix ids 0) g1 0 7) rfl (pv_fa (fa_ptr (c := 0) (off := 7) (i := 7) ti31 rfl ti29 rfl)) ?_
              refine wo_val v9 rfl (pv_load (ld_ptr hI rfl rfl rfl ti29 rfl)) ?_
              refine wo_val (.int .i64 (j5 : Int)) rfl pv_move ?_
              refine of_idx fun a11 hz4 hx11 => ?_
              refine wo_val (.ptr (ix ids 19) g24 (j5 : Int).toNat 0) rfl (pv_ixa (ixa_own hI rfl vH15 rfl ti29 ti63 rfl hz4 hx11)) ?_
              refine wo_val (.ptr (ix ids 19) g24 (j5 : Int).toNat 0) rfl pv_assign ?_
              refine wo_nil ?_
              refine wr_seq ?_
              refine wr_region ?_
              refine wo_val (.ptr (ix ids 19) g24 (j5 : Int).toNat 0) rfl pv_move ?_
              refine wo_val (.ptr (ix ids 19) g24 (j5 : Int).toNat 0) rfl pv_move ?_
              refine wo_val (.map (ix ids 9) g9) rfl pv_move ?_
              refine wo_val (.ptr (ix ids 19) g24 (j5 : Int).toNat 0) rfl pv_move ?_
              refine wo_val (.ptr (ix ids 19) g24 (j5 : Int).toNat 0) rfl (pv_nilCheck rfl) ?_
              refine wo_val (.ptr (ix ids 19) g24 (j5 : Int).toNat 1) rfl (pv_fa (fa_ptr (c := 0) (off := 1) (i := 1) ti63 rfl ti9 rfl)) ?_
              refine wo_val (.str a11.C) rfl (pv_load (ld_own hI rfl vH15 rfl hx11 ti9 rfl)) ?_
              refine of_call [(.map (ix ids 9) g9), (.str a11.C)] rfl rfl rfl rfl ((cp_names_numbers_of r6 a11.C (ix ids 9) g9) _ (hI.at rfl rfl)) (fun v _ => hU v _ _ _ _ _ _ rfl rfl rfl rfl rfl rfl) fun r19 _ => ?_
              refine wo_val (.ptr (ix ids 19) g24 (j5 : Int).toNat 0) rfl (pv_nilCheck rfl) ?_
              refine wo_val (.ptr (ix ids 19) g24 (j5 : Int).toNat 3) rfl (pv_fa (fa_ptr (c := 0) (off := 3) (i := 3) ti63 rfl ti3 rfl)) ?_
              refine wo_store (st_own (y := { a11 with Class := r19 }) hI rfl rfl vH15 rfl hx11 ti3 rfl rfl rfl rfl rfl rfl) ?_
              have vH16 := OwnV.set (i := (j5 : Int).toNat) (y := { a11 with Class := r19 }) vH15
              have hx12 := List.getElem?_set_self (a := { a11 with Class := r19 }) (lt_of_get hx11)
              refine wo_val (.ptr (ix ids 19) g24 (j5 : Int).toNat 0) rfl (pv_nilCheck rfl) ?_
              refine wo_val (.ptr (ix ids 19) g24 (j5 : Int).toNat 4) rfl (pv_fa (fa_ptr (c := 0) (off := 4) (i := 4) ti63 rfl ti3 rfl)) ?_
              refine wo_store (st_own (y := { { a11 with Class := r19 } with Airport := 0 }) hI rfl rfl vH16 rfl hx12 ti3 rfl rfl rfl rfl rfl rfl) ?_
              have vH17 := OwnV.set (i := (j5 : Int).toNat) (y := { { a11 with Class := r19 } with Airport := 0 }) vH16
              have hx13 := List.getElem?_set_self (a := { { a11 with Class := r19 } with Airport := 0 }) (lt_of_get hx12)
              refine wo_nil ?_
              refine wr_hp [(some (.rows g1 8 [[(.sl 2 (List.map rVolume a.Volumes)), v5, v6, v7, v8, (.sl 2 (List.map rAirport a.Airports)), (.sl 4 (List.map rClass a.Classes)), v9]])), (some (.rows g2 1 [[(.int .i64 0)]])), none, none, none, none, none, none, (some (.mp g8 (mE (fun x : Str => (AV.str x)) (fun x : Int => (AV.int .i64 x)) r5))), (some (.mp g9 (mE (fun x : Str => (AV.str x)) (fun x : Int => (AV.int .i64 x)) r6))), none, none, none, (ownO v5 g17 5 (List.map rSector x2)), none, (ownO v6 g19 3 (List.map rConfig x4)), none, (ownO v7 g21 5 (List.map rSegment x6)), (ownO v8 g23 7 (List.map rRoute l)), (ownO v9 g24 8 (List.map rRule ((l1.set (j5 : Int).toNat { a11 with Class := r19 }).set (j5 : Int).toNat { { a11 with Class := r19 } with Airport := 0 })))] rfl ?_
              refine wr_seq ?_
              refine wr_region ?_
              refine wo_val (.ptr (ix ids 19) g24 (j5 : Int).toNat 0) rfl pv_move ?_
              refine wo_val (.ptr (ix ids 19) g24 (j5 : Int).toNat 0) rfl (pv_nilCheck rfl) ?_
              refine wo_val (.ptr (ix ids 19) g24 (j5 : Int).toNat 0) rfl (pv_fa (fa_ptr (c := 0) (off := 0) (i := 0) ti63 rfl ti3 rfl)) ?_
              refine wo_val (.int .i64 { { a11 with Class := r19 } with Airport := 0 }.Kind) rfl (pv_load (ld_own hI rfl vH17 rfl hx13 ti3 rfl)) ?_
              refine wo_val (.bool (({ { a11 with Class := r19 } with Airport := 0 }.Kind) == 1)) rfl (pv_bin rfl rfl rfl) ?_
              refine wo_nil ?_
              refine wf_iteb rfl (fun hc => ?_) (fun hc => ?_)
              · refine wr_region ?_
                refine wo_val (.ptr (ix ids 19) g24 (j5 : Int).toNat 0) rfl pv_move ?_
                refine wo_val (.map (ix ids 8) g8) rfl pv_move ?_
                refine wo_val (.ptr (ix ids 19) g24 (j5 : Int).toNat 0) rfl pv_move ?_
                refine wo_val (.ptr (ix ids 19) g24 (j5 : Int).toNat 0) rfl (pv_nilCheck rfl) ?_
                refine wo_val (.ptr (ix ids 19) g24 (j5 : Int).toNat 2) rfl (pv_fa (fa_ptr (c := 0) (off := 2) (i := 2) ti63 rfl ti9 rfl)) ?_
                refine wo_val (.str { { a11 with Class := r19 } with Airport := 0 }.A) rfl (pv_load (ld_own hI rfl vH17 rfl hx13 ti9 rfl)) ?_
                refine of_call [(.map (ix ids 8) g8), (.str ({ { a11 with Class := r19 } with Airport := 0 }.A))] rfl rfl rfl rfl ((cp_names_numbers_of r5 ({ { a11 with Class := r19 } with Airport := 0 }.A) (ix ids 8) g8) _ (hI.at rfl rfl)) (fun v _ => hU v _ _ _ _ _ _ rfl rfl rfl rfl rfl rfl) fun r20 _ => ?_
                refine wo_val (.ptr (ix ids 19) g24 (j5 : Int).toNat 0) rfl (pv_nilCheck rfl) ?_
                refine wo_val (.ptr (ix ids 19) g24 (j5 : Int).toNat 4) rfl (pv_fa (fa_ptr (c := 0) (off := 4) (i := 4) ti63 rfl ti3 rfl)) ?_
                refine wo_store (st_own (y := { { { a11 with Class := r19 } with Airport := 0 } with Airport := r20 }) hI rfl rfl vH17 rfl hx13 ti3 rfl rfl rfl rfl rfl rfl) ?_
                have vH18 := OwnV.set (i := (j5 : Int).toNat) (y := { { { a11 with Class := r19 } with Airport := 0 } with Airport := r20 }) vH17
                have hx14 := List.getElem?_set_self (a := { { { a11 with Class := r19 } with Airport := 0 } with Airport := r20 }) (lt_of_get hx13)
                refine wo_nil ?_
                refine wr_hp [(some (.rows g1 8 [[(.sl 2 (List.map rVolume a.Volumes)), v5, v6, v7, v8, (.sl 2 (List.map rAirport a.Airports)), (.sl 4 (List.map rClass a.Classes)), v9]])), (some (.rows g2 1 [[(.int .i64 0)]])), none, none, none, none, none, none, (some (.mp g8 (mE (fun x : Str => (AV.str x)) (fun x : Int => (AV.int .i64 x)) r5))), (some (.mp g9 (mE (fun x : Str => (AV.str x)) (fun x : Int => (AV.int .i64 x)) r6))), none, none, none, (ownO v5 g17 5 (List.map rSector x2)), none, (ownO v6 g19 3 (List.map rConfig x4)), none, (ownO v7 g21 5 (List.map rSegment x6)), (ownO v8 g23 7 (List.map rRoute l)), (ownO v9 g24 8 (List.map rRule (((l1.set (j5 : Int).toNat { a11 with Class := r19 }).set (j5 : Int).toNat { { a11 with Class := r19 } with Airport := 0 }).set (j5 : Int).toNat { { { a11 with Class := r19 } with Airport := 0 } with Airport := r20 })))] rfl ?_
                refine wr_inBlock ?_
                refine wr_region ?_
                refine wo_val (.int .i64 (IntKind.wrap .i64 ((j5 : Int) + 1))) rfl (pv_bin rfl rfl rfl) ?_
                refine wo_val (.int .i64 (IntKind.wrap .i64 ((j5 : Int) + 1))) rfl pv_move ?_
                refine wo_nil ?_
                refine wr_is [(2, (.ptr (ix ids 0) g1 0 0)), (3, (.ptr (ix ids 1) g2 0 0)), (7, (.map (ix ids 8) g8)), (8, (.map (ix ids 9) g9)), (169, (.int .i64 (r12.length : Int))), (170, (.int .i64 ((j5 + 1 : Nat) : Int)))] (.cons rfl (.cons rfl (.cons rfl (.cons rfl (.cons rfl (.cons (inc_ok (lt_of_get ha10) hlim5) .nil)))))) ?_
                refine wb_S ?_
                refine hW5 (((l1.set (j5 : Int).toNat { a11 with Class := r19 }).set (j5 : Int).toNat { { a11 with Class := r19 } with Airport := 0 }).set (j5 : Int).toNat { { { a11 with Class := r19 } with Airport := 0 } with Airport := r20 }) _ _ ?_
                exact ⟨v9, g24, vH18, rfl, rfl⟩
              · refine wr_skip ?_
                refine wr_inBlock ?_
                refine wr_region ?_
                refine wo_val (.int .i64 (IntKind.wrap .i64 ((j5 : Int) + 1))) rfl (pv_bin rfl rfl rfl) ?_
                refine wo_val (.int .i64 (IntKind.wrap .i64 ((j5 : Int) + 1))) rfl pv_move ?_
                refine wo_nil ?_
                refine wr_is [(2, (.ptr (ix ids 0) g1 0 0)), (3, (.ptr (ix ids 1) g2 0 0)), (7, (.map (ix ids 8) g8)), (8, (.map (ix ids 9) g9)), (169, (.int .i64 (r12.length : Int))), (170, (.int .i64 ((j5 + 1 : Nat) : Int)))] (.cons rfl (.cons rfl (.cons rfl (.cons rfl (.cons rfl (.cons (inc_ok (lt_of_get ha10) hlim5) .nil)))))) ?_
                refine wb_S ?_
                refine hW5 ((l1.set (j5 : Int).toNat { a11 with Class := r19 }).set (j5 : Int).toNat { { a11 with Class := r19 } with Airport := 0 }) _ _ ?_
                exact ⟨v9, g24, vH17, rfl, rfl⟩
            · rintro l1 fr h ⟨v9, g24, vH15, rfl, rfl⟩
              refine wr_seq ?_
              refine wr_region ?_
              refine wo_val (.bool (decide ((r12.length : Int) < (r12.length : Int)))) rfl (pv_bin rfl rfl rfl) ?_
              refine wo_nil ?_
              refine wr_seq ?_
              refine wr_condF rfl (Int.lt_irrefl _) ?_
              refine wr_exit rfl ?_
              refine wr_seq ?_
              refine wr_region ?_
              refine wo_val (.agg [(.sl 2 (List.map rVolume a.Volumes)), v5, v6, v7, v8, (.sl 2 (List.map rAirport a.Airports)), (.sl 4 (List.map rClass a.Classes)), v9]) rfl (pv_load (ld_ptr hI rfl rfl rfl ti31 rfl)) ?_
              refine wo_store (st_ptr hI rfl rfl rfl rfl ti31 rfl rfl rfl rfl (flat_cons rfl (flat_cons (OwnV.flat vH5) (flat_cons (OwnV.flat vH7) (flat_cons (OwnV.flat vH9) (flat_cons (OwnV.flat vH11) (flat_cons rfl (flat_cons rfl (flat_cons (OwnV.flat vH15) flat_nil))))))))) ?_
              refine wo_store (st_ptr hI rfl rfl rfl rfl ti34 rfl rfl rfl rfl rfl) ?_
              refine wo_nil ?_
              exact wr_retC (a := (({ Volumes := a.Volumes, Sectors := x2, Configs := x4, Segments := x6, Routes := l, Airports := a.Airports, Classes := a.Classes, Rules := l1 } : Airspace), 0)) (vs := [(.agg [(.sl 2 (List.map rVolume a.Volumes)), v5, v6, v7, v8, (.sl 2 (List.map rAirport a.Airports)), (.sl 4 (List.map rClass a.Classes)), v9]), (.int .i64 0)]) Try.func12 hI (cdr_names_Resolve_c1 _ _ _) (ares_cell (ld_ptr hI rfl rfl rfl ti31 rfl) (ares_cell (ld_ptr hI rfl rfl rfl ti34 rfl) ares_nil)) (.tupL (.cons (.aggL (.cons (.same _) (.cons (own_fz vH5 (hI.at rfl rfl) (hI.out rfl) (fun x => ok_Sector x)) (.cons (own_fz vH7 (hI.at rfl rfl) (hI.out rfl) (fun x => ok_Config x)) (.cons (own_fz vH9 (hI.at rfl rfl) (hI.out rfl) (fun x => ok_Segment x)) (.cons (own_fz vH11 (hI.at rfl rfl) (hI.out rfl) (fun x => ok_Route x)) (.cons (.same _) (.cons (.same _) (.cons (own_fz vH15 (hI.at rfl rfl) (hI.out rfl) (fun x => ok_Rule x)) .nil))))))))) (.cons (.same _) .nil)))

theorem cg_names_find_Volume_c1 (a : Volume) (s1 : Str) (h0 : AHeap) (o0 : Nat) (o1 : Nat) (g : Nat) (g1 : Nat) (hI0 : Ids h0 [o0, o1] 2) : names_find_Volume_c1 a s1 ≠ .bad → ACalls Try.prog 67 [(.agg (rVolume a)), (.ptr o0 g 0 0), (.ptr o1 g1 0 0)] (hp h0 [o0, o1] [some (.rows g 1 [[(.func (.func 25) [] [])]]), some (.rows g1 1 [[(.str s1)]])]) (AnsG (fun a_ v h' => v = (.bool a_) ∧ h' = hp h0 [o0, o1] [some (.rows g 1 [[(.func (.func 25) [] [])]]), some (.rows g1 1 [[(.str s1)]])]) h0 (names_find_Volume_c1 a s1)) := by
  refine cpg_intro (n := 10) 1 Try.func67 rfl (by decide) rfl rfl hI0 rfl fun ids he hI => ?_
  clear hI0
  obtain rfl : ix ids 0 = o0 := he 0 rfl
  obtain rfl : ix ids 1 = o1 := he 1 rfl
  clear he
  refine wr_in (wr_mod (names_find_Volume_c1.eq_1 _ _) ?_)
  refine wr_hp [(some (.rows g 1 [[(.func (.func 25) [] [])]])), (some (.rows g1 1 [[(.str s1)]])), none] rfl ?_
  refine wr_seq ?_
  refine wr_region ?_
  refine wo_box (v := (.agg (rVolume a))) (j := 2) hI rfl rfl rfl rfl rfl rfl rfl fun g2 => ?_
  refine wo_val (.bool false) rfl pv_assign ?_
  refine wo_nil ?_
  refine wr_hp [(some (.rows g 1 [[(.func (.func 25) [] [])]])), (some (.rows g1 1 [[(.str s1)]])), (some (.rows g2 2 [(rVolume a)]))] rfl ?_
  refine wr_seq ?_
  refine wr_draw hmix [[], [], [0, 1], [], [0, 1, 2, 3], [0, 1, 2, 2, 3, 4, 4]] [(false, 0), (false, 1), (false, 3), (true, 2), (false, 4), (false, 5)] (by kernel_rfl) ?_
  refine wp_val (.func (.func 25) [] []) rfl rfl (pv_load (ld_ptr hI rfl rfl rfl ti72 rfl)) ?_
  refine wp_val (.agg (rVolume a)) rfl rfl (pv_load (ld_ptr hI rfl rfl rfl ti41 rfl)) ?_
  refine wp_val (.str s1) rfl rfl (pv_load (ld_ptr hI rfl rfl rfl ti9 rfl)) ?_
  refine wp_call [(.agg (rVolume a))] rfl rfl rfl rfl rfl ((cp_names_volume a) _) (fun v _ _ _ => wu_panG (K := 2) (N := 1) Try.func67 hI) (pend_no rfl (pv_load (ld_ptr hI rfl rfl rfl ti9 rfl)) (pend_yes rfl (pend_yes rfl pend_nil))) fun r _ => ?_
  refine wp_val (.bool (r == s1)) rfl rfl (pv_bin rfl rfl rfl) ?_
  refine wp_val (.bool (r == s1)) rfl rfl pv_assign ?_
  refine wp_nil ?_
  exact wr_retG (K := 2) (N := 1) (a := (r == s1)) (vs := [(.bool (r == s1))]) [some (.rows g 1 [[(.func (.func 25) [] [])]]), some (.rows g1 1 [[(.str s1)]])] Try.func67 hI rfl rfl rfl (.keep (.keep (.drop .nil))) (.same _) ⟨rfl, rfl⟩

theorem cg_slices_IndexFunc_Volume_c1 (s : (List Volume)) (s1 : Str) (h0 : AHeap) (o0 : Nat) (o1 : Nat) (g : Nat) (g1 : Nat) (hI0 : Ids h0 [o0, o1] 2) : slices_IndexFunc_Volume_c1 s s1 ≠ .bad → ACalls Try.prog 66 [(.sl 2 (List.map rVolume s)), (.func (.func 67) [] [(.ptr o0 g 0 0), (.ptr o1 g1 0 0)])] (hp h0 [o0, o1] [some (.rows g 1 [[(.func (.func 25) [] [])]]), some (.rows g1 1 [[(.str s1)]])]) (AnsG (fun a_ v h' => v = (.int .i64 a_) ∧ h' = hp h0 [o0, o1] [some (.rows g 1 [[(.func (.func 25) [] [])]]), some (.rows g1 1 [[(.str s1)]])]) h0 (slices_IndexFunc_Volume_c1 s s1)) := by
  refine cpg_intro (n := 19) 0 Try.func66 rfl (by decide) rfl rfl hI0 rfl fun ids he hI => ?_
  clear hI0
  obtain rfl : ix ids 0 = o0 := he 0 rfl
  obtain rfl : ix ids 1 = o1 := he 1 rfl
  clear he
  refine wr_in (wr_mod (slices_IndexFunc_Volume_c1.eq_1 _ _) ?_)
  refine wr_seq ?_
  refine wr_region ?_
  refine wo_val (.int .i64 0) rfl pv_assign ?_
  refine wo_nil ?_
  refine wr_seq ?_
  refine wr_seq ?_
  refine wr_region ?_
  refine wo_val (.sl 2 (List.map rVolume s)) rfl pv_move ?_
  refine wo_val (.int .i64 (s.length : Int)) rfl (pv_len (len_sl ti22)) ?_
  refine wo_val (.int .i64 0) rfl pv_move ?_
  refine wo_nil ?_
  refine wr_block ?_
  refine wr_is [(0, (.sl 2 (List.map rVolume s))), (1, (.func (.func 67) [] [(.ptr (ix ids 0) g 0 0), (.ptr (ix ids 1) g1 0 0)])), (7, (.int .i64 (s.length : Int))), (8, (.int .i64 0))] (.cons rfl (.cons rfl (.cons rfl (.cons rfl .nil)))) ?_
  refine wf_each' (P := Try.prog) s (fun j a => fun _ => slices_IndexFunc_Volume_c1_b1 s1 j a) ((alt (fun _ => .ok (-1)) (fun r => .ok r)) : (Unit ⊕ Int) → R Int)
    (fun j => fun _ => fun (fr : Nat → AV) (h : AHeap) => fr = frA [(0, (.sl 2 (List.map rVolume s))), (1, (.func (.func 67) [] [(.ptr (ix ids 0) g 0 0), (.ptr (ix ids 1) g1 0 0)])), (7, (.int .i64 (s.length : Int))), (8, (.int .i64 (j : Int)))] ∧ h = hp h0 ids [(some (.rows g 1 [[(.func (.func 25) [] [])]])), (some (.rows g1 1 [[(.str s1)]]))]) () ?_ ?_ ?_
  · exact ⟨rfl, rfl⟩
  · rintro j a ha W hW _ fr h ⟨rfl, rfl⟩
    refine wr_mod (m' := slices_IndexFunc_Volume_c1_b1 s1 j a) rfl (wr_mod (slices_IndexFunc_Volume_c1_b1.eq_1 _ _ _) ?_)
    refine wr_seq ?_
    refine wr_region ?_
    refine wo_val (.bool (decide ((j : Int) < (s.length : Int)))) rfl (pv_bin rfl rfl rfl) ?_
    refine wo_nil ?_
    refine wr_seq ?_
    refine wr_lim (t := 0) (L := s) rfl fun hlim => ?_
    refine wr_condT rfl (Int.ofNat_lt.2 (lt_of_get ha)) ?_
    refine wr_skip ?_
    refine wr_seq ?_
    refine wr_block ?_
    refine wr_seq ?_
    refine wr_region ?_
    refine wo_val (.int .i64 (j : Int)) rfl pv_move ?_
    refine wo_val (.int .i64 (j : Int)) rfl pv_assign ?_
    refine wo_nil ?_
    refine wr_seq ?_
    refine wr_region ?_
    refine wo_val (.func (.func 67) [] [(.ptr (ix ids 0) g 0 0), (.ptr (ix ids 1) g1 0 0)]) rfl pv_move ?_
    refine wo_val (.sl 2 (List.map rVolume s)) rfl pv_move ?_
    refine wo_val (.int .i64 (j : Int)) rfl pv_move ?_
    refine wo_val (.cp (rVolume a) 0) rfl (pv_ixa (ixa_nat ti22 ti41 rfl ha)) ?_
    refine wo_val (.agg (rVolume a)) rfl (pv_load (ld_cp ti41 rfl)) ?_
    refine of_callG [0, 1] hI rfl rfl (cg_names_find_Volume_c1 a s1 _ (ix ids 0) (ix ids 1) g g1 (by exact hI.sub' rfl rfl)) rfl rfl rfl rfl rfl rfl (fun v _ => wu_panG (K := 2) (N := 0) Try.func66 hI) ?_
    rintro r _ _ _ ⟨rfl, rfl⟩
    refine wo_putH [0, 1] [(some (.rows g 1 [[(.func (.func 25) [] [])]])), (some (.rows g1 1 [[(.str s1)]]))] hI rfl rfl rfl rfl ?_
    refine wo_put1 ?_
    refine wo_nil ?_
    refine wf_iteb rfl (fun hc => ?_) (fun hc => ?_)
    · refine wr_seq ?_
      refine wr_region ?_
      refine wo_val (.int .i64 (j : Int)) rfl pv_move ?_
      refine wo_val (.int .i64 (j : Int)) rfl pv_assign ?_
      refine wo_nil ?_
      refine wx_each ?_
      refine w_altr ?_
      exact wr_retG (K := 2) (N := 0) (a := (j : Int)) (vs := [(.int .i64 (j : Int))]) [some (.rows g 1 [[(.func (.func 25) [] [])]]), some (.rows g1 1 [[(.str s1)]])] Try.func66 hI rfl rfl rfl (.keep (.keep .nil)) (.same _) ⟨rfl, rfl⟩
    · refine wr_skip ?_
      refine wr_inBlock ?_
      refine wr_region ?_
      refine wo_val (.int .i64 (IntKind.wrap .i64 ((j : Int) + 1))) rfl (pv_bin rfl rfl rfl) ?_
      refine wo_val (.int .i64 (IntKind.wrap .i64 ((j : Int) + 1))) rfl pv_move ?_
      refine wo_nil ?_
      refine wr_is [(0, (.sl 2 (List.map rVolume s))), (1, (.func (.func 67) [] [(.ptr (ix ids 0) g 0 0), (.ptr (ix ids 1) g1 0 0)])), (7, (.int .i64 (s.length : Int))), (8, (.int .i64 ((j + 1 : Nat) : Int)))] (.cons rfl (.cons rfl (.cons rfl (.cons (inc_ok (lt_of_get ha) hlim) .nil)))) ?_
      refine wb_each ?_
      refine hW () _ _ ?_
      exact ⟨rfl, rfl⟩
  · rintro _ fr h ⟨rfl, rfl⟩
    refine wr_mod (alt_inl _ _ _) ?_
    refine wr_seq ?_
    refine wr_region ?_
    refine wo_val (.bool (decide ((s.length : Int) < (s.length : Int)))) rfl (pv_bin rfl rfl rfl) ?_
    refine wo_nil ?_
    refine wr_seq ?_
    refine wr_condF rfl (Int.lt_irrefl _) ?_
    refine wr_exit rfl ?_
    refine wr_seq ?_
    refine wr_region ?_
    refine wo_val (.int .i64 (-1)) rfl pv_assign ?_
    refine wo_nil ?_
    exact wr_retG (K := 2) (N := 0) (a := (-1)) (vs := [(.int .i64 (-1))]) [some (.rows g 1 [[(.func (.func 25) [] [])]]), some (.rows g1 1 [[(.str s1)]])] Try.func66 hI rfl rfl rfl (.keep (.keep .nil)) (.same _) ⟨rfl, rfl⟩

theorem cp_names_find_Volume_volume (l : (List Volume)) (name : Str) : CP Try.prog 56 [(.sl 2 (List.map rVolume l)), (.func (.func 25) [] []), (.str name)] (names_find_Volume_volume l name) (fun (p : (Int × Bool)) => AV.tup [(.int .i64 p.1), (.bool p.2)]) := by
  refine cp_intro (n := 14) 2 Try.func56 rfl (by decide) rfl rfl fun h0 ids hI => ?_
  refine wr_in (wr_mod (names_find_Volume_volume.eq_1 _ _) ?_)
  refine wr_seq ?_
  refine wr_region ?_
  refine wo_box (v := (.func (.func 25) [] [])) (j := 0) hI rfl rfl rfl rfl rfl rfl rfl fun g => ?_
  refine wo_box (v := (.str name)) (j := 1) hI rfl rfl rfl rfl rfl rfl rfl fun g1 => ?_
  refine wo_val (.int .i64 0) rfl pv_assign ?_
  refine wo_val (.bool false) rfl pv_assign ?_
  refine wo_nil ?_
  refine wr_hp [(some (.rows g 1 [[(.func (.func 25) [] [])]])), (some (.rows g1 1 [[(.str name)]]))] rfl ?_
  refine wr_seq ?_
  refine wr_seq ?_
  refine wr_region ?_
  refine wo_val (.sl 2 (List.map rVolume l)) rfl pv_move ?_
  refine wo_val (.func (.func 67) [] [(.ptr (ix ids 0) g 0 0), (.ptr (ix ids 1) g1 0 0)]) rfl pv_func ?_
  refine of_callG [0, 1] hI rfl rfl (cg_slices_IndexFunc_Volume_c1 l name _ (ix ids 0) (ix ids 1) g g1 (by exact hI.sub' rfl rfl)) rfl rfl rfl rfl rfl rfl (fun v _ => wu_pan Try.func56 hI) ?_
  rintro n _ _ _ ⟨rfl, rfl⟩
  refine wo_putH [0, 1] [(some (.rows g 1 [[(.func (.func 25) [] [])]])), (some (.rows g1 1 [[(.str name)]]))] hI rfl rfl rfl rfl ?_
  refine wo_put1 ?_
  refine wo_val (.int .i64 n) rfl pv_assign ?_
  refine wo_nil ?_
  refine wr_seq ?_
  refine wr_region ?_
  refine wo_val (.int .i64 n) rfl pv_move ?_
  refine wo_val (.bool (decide (n < 0))) rfl (pv_bin rfl rfl rfl) ?_
  refine wo_nil ?_
  refine wf_ite rfl (fun hc => ?_) (fun hc => ?_)
  · refine wr_seq ?_
    refine wr_region ?_
    refine wo_val (.int .i64 0) rfl pv_assign ?_
    refine wo_val (.bool false) rfl pv_assign ?_
    refine wo_nil ?_
    exact wr_ret (a := (0, false)) (vs := [(.int .i64 0), (.bool false)]) Try.func56 hI rfl (.tupL (.cons (.same _) (.cons (.same _) .nil)))
  · refine wr_skip ?_
    refine wr_seq ?_
    refine wr_region ?_
    refine wo_val (.int .i64 n) rfl pv_move ?_
    refine wo_val (.int .i64 n) rfl pv_assign ?_
    refine wo_val (.bool true) rfl pv_assign ?_
    refine wo_nil ?_
    exact wr_ret (a := (n, true)) (vs := [(.int .i64 n), (.bool true)]) Try.func56 hI rfl (.tupL (.cons (.same _) (.cons (.same _) .nil)))

theorem cp_names_Volume (a : Airspace) (name : Str) : CP Try.prog 15 [(.agg (rAirspace a)), (.str name)] (names_Volume a name) (fun (p : (Int × Bool)) => AV.tup [(.int .i64 p.1), (.bool p.2)]) := by
  refine cp_intro (n := 12) 1 Try.func15 rfl (by decide) rfl rfl fun h0 ids hI => ?_
  refine wr_in (wr_mod (names_Volume.eq_1 _ _) ?_)
  refine wr_seq ?_
  refine wr_region ?_
  refine wo_box (v := (.agg (rAirspace a))) (j := 0) hI rfl rfl rfl rfl rfl rfl rfl fun g => ?_
  refine wo_val (.int .i64 0) rfl pv_assign ?_
  refine wo_val (.bool false) rfl pv_assign ?_
  refine wo_nil ?_
  refine wr_hp [(some (.rows g 8 [(rAirspace a)]))] rfl ?_
  refine wr_seq ?_
  refine wr_region ?_
  refine wo_val (.ptr (ix ids 0) g 0 0) rfl (pv_fa (fa_ptr (c := 0) (off := 0) (i := 0) ti31 rfl ti22 rfl)) ?_
  refine wo_val (.sl 2 (List.map rVolume a.Volumes)) rfl (pv_load (ld_ptr hI rfl rfl rfl ti22 rfl)) ?_
  refine wo_val (.str name) rfl pv_move ?_
  refine of_call [(.sl 2 (List.map rVolume a.Volumes)), (.func (.func 25) [] []), (.str name)] rfl rfl rfl rfl ((cp_names_find_Volume_volume a.Volumes name) _) (fun v _ => wu_pan Try.func15 hI) fun r _ => ?_
  refine wo_val (.int .i64 r.1) rfl (pv_ext rfl) ?_
  refine wo_val (.bool r.2) rfl (pv_ext rfl) ?_
  refine wo_val (.int .i64 r.1) rfl pv_assign ?_
  refine wo_val (.bool r.2) rfl pv_assign ?_
  refine wo_nil ?_
  exact wr_ret (a := (r.1, r.2)) (vs := [(.int .i64 r.1), (.bool r.2)]) Try.func15 hI rfl (.tupL (.cons (.same _) (.cons (.same _) .nil)))

theorem cg_names_find_Class_c1 (a : Class) (s1 : Str) (h0 : AHeap) (o0 : Nat) (o1 : Nat) (g : Nat) (g1 : Nat) (hI0 : Ids h0 [o0, o1] 2) : names_find_Class_c1 a s1 ≠ .bad → ACalls Try.prog 71 [(.agg (rClass a)), (.ptr o0 g 0 0), (.ptr o1 g1 0 0)] (hp h0 [o0, o1] [some (.rows g 1 [[(.func (.func 37) [] [])]]), some (.rows g1 1 [[(.str s1)]])]) (AnsG (fun a_ v h' => v = (.bool a_) ∧ h' = hp h0 [o0, o1] [some (.rows g 1 [[(.func (.func 37) [] [])]]), some (.rows g1 1 [[(.str s1)]])]) h0 (names_find_Class_c1 a s1)) := by
  refine cpg_intro (n := 10) 1 Try.func71 rfl (by decide) rfl rfl hI0 rfl fun ids he hI => ?_
  clear hI0
  obtain rfl : ix ids 0 = o0 := he 0 rfl
  obtain rfl : ix ids 1 = o1 := he 1 rfl
  clear he
  refine wr_in (wr_mod (names_find_Class_c1.eq_1 _ _) ?_)
  refine wr_hp [(some (.rows g 1 [[(.func (.func 37) [] [])]])), (some (.rows g1 1 [[(.str s1)]])), none] rfl ?_
  refine wr_seq ?_
  refine wr_region ?_
  refine wo_box (v := (.agg (rClass a))) (j := 2) hI rfl rfl rfl rfl rfl rfl rfl fun g2 => ?_
  refine wo_val (.bool false) rfl pv_assign ?_
  refine wo_nil ?_
  refine wr_hp [(some (.rows g 1 [[(.func (.func 37) [] [])]])), (some (.rows g1 1 [[(.str s1)]])), (some (.rows g2 4 [(rClass a)]))] rfl ?_
  refine wr_seq ?_
  refine wr_draw hmix [[], [], [0, 1], [], [0, 1, 2, 3], [0, 1, 2, 2, 3, 4, 4]] [(false, 0), (false, 1), (false, 3), (true, 2), (false, 4), (false, 5)] (by kernel_rfl) ?_
  refine wp_val (.func (.func 37) [] []) rfl rfl (pv_load (ld_ptr hI rfl rfl rfl ti84 rfl)) ?_
  refine wp_val (.agg (rClass a)) rfl rfl (pv_load (ld_ptr hI rfl rfl rfl ti43 rfl)) ?_
  refine wp_val (.str s1) rfl rfl (pv_load (ld_ptr hI rfl rfl rfl ti9 rfl)) ?_
  refine wp_call [(.agg (rClass a))] rfl rfl rfl rfl rfl ((cp_names_class a) _) (fun v _ _ _ => wu_panG (K := 2) (N := 1) Try.func71 hI) (pend_no rfl (pv_load (ld_ptr hI rfl rfl rfl ti9 rfl)) (pend_yes rfl (pend_yes rfl pend_nil))) fun r _ => ?_
  refine wp_val (.bool (r == s1)) rfl rfl (pv_bin rfl rfl rfl) ?_
  refine wp_val (.bool (r == s1)) rfl rfl pv_assign ?_
  refine wp_nil ?_
  exact wr_retG (K := 2) (N := 1) (a := (r == s1)) (vs := [(.bool (r == s1))]) [some (.rows g 1 [[(.func (.func 37) [] [])]]), some (.rows g1 1 [[(.str s1)]])] Try.func71 hI rfl rfl rfl (.keep (.keep (.drop .nil))) (.same _) ⟨rfl, rfl⟩

theorem cg_slices_IndexFunc_Class_c1 (s : (List Class)) (s1 : Str) (h0 : AHeap) (o0 : Nat) (o1 : Nat) (g : Nat) (g1 : Nat) (hI0 : Ids h0 [o0, o1] 2) : slices_IndexFunc_Class_c1 s s1 ≠ .bad → ACalls Try.prog 70 [(.sl 4 (List.map rClass s)), (.func (.func 71) [] [(.ptr o0 g 0 0), (.ptr o1 g1 0 0)])] (hp h0 [o0, o1] [some (.rows g 1 [[(.func (.func 37) [] [])]]), some (.rows g1 1 [[(.str s1)]])]) (AnsG (fun a_ v h' => v = (.int .i64 a_) ∧ h' = hp h0 [o0, o1] [some (.rows g 1 [[(.func (.func 37) [] [])]]), some (.rows g1 1 [[(.str s1)]])]) h0 (slices_IndexFunc_Class_c1 s s1)) := by
  refine cpg_intro (n := 19) 0 Try.func70 rfl (by decide) rfl rfl hI0 rfl fun ids he hI => ?_
  clear hI0
  obtain rfl : ix ids 0 = o0 := he 0 rfl
  obtain rfl : ix ids 1 = o1 := he 1 rfl
  clear he
  refine wr_in (wr_mod (slices_IndexFunc_Class_c1.eq_1 _ _) ?_)
  refine wr_seq ?_
  refine wr_region ?_
  refine wo_val (.int .i64 0) rfl pv_assign ?_
  refine wo_nil ?_
  refine wr_seq ?_
  refine wr_seq ?_
  refine wr_region ?_
  refine wo_val (.sl 4 (List.map rClass s)) rfl pv_move ?_
  refine wo_val (.int .i64 (s.length : Int)) rfl (pv_len (len_sl ti28)) ?_
  refine wo_val (.int .i64 0) rfl pv_move ?_
  refine wo_nil ?_
  refine wr_block ?_
  refine wr_is [(0, (.sl 4 (List.map rClass s))), (1, (.func (.func 71) [] [(.ptr (ix ids 0) g 0 0), (.ptr (ix ids 1) g1 0 0)])), (7, (.int .i64 (s.length : Int))), (8, (.int .i64 0))] (.cons rfl (.cons rfl (.cons rfl (.cons rfl .nil)))) ?_
  refine wf_each' (P := Try.prog) s (fun j a => fun _ => slices_IndexFunc_Class_c1_b1 s1 j a) ((alt (fun _ => .ok (-1)) (fun r => .ok r)) : (Unit ⊕ Int) → R Int)
    (fun j => fun _ => fun (fr : Nat → AV) (h : AHeap) => fr = frA [(0, (.sl 4 (List.map rClass s))), (1, (.func (.func 71) [] [(.ptr (ix ids 0) g 0 0), (.ptr (ix ids 1) g1 0 0)])), (7, (.int .i64 (s.length : Int))), (8, (.int .i64 (j : Int)))] ∧ h = hp h0 ids [(some (.rows g 1 [[(.func (.func 37) [] [])]])), (some (.rows g1 1 [[(.str s1)]]))]) () ?_ ?_ ?_
  · exact ⟨rfl, rfl⟩
  · rintro j a ha W hW _ fr h ⟨rfl, rfl⟩
    refine wr_mod (m' := slices_IndexFunc_Class_c1_b1 s1 j a) rfl (wr_mod (slices_IndexFunc_Class_c1_b1.eq_1 _ _ _) ?_)
    refine wr_seq ?_
    refine wr_region ?_
    refine wo_val (.bool (decide ((j : Int) < (s.length : Int)))) rfl (pv_bin rfl rfl rfl) ?_
    refine wo_nil ?_
    refine wr_seq ?_
    refine wr_lim (t := 0) (L := s) rfl fun hlim => ?_
    refine wr_condT rfl (Int.ofNat_lt.2 (lt_of_get ha)) ?_
    refine wr_skip ?_
    refine wr_seq ?_
    refine wr_block ?_
    refine wr_seq ?_
    refine wr_region ?_
    refine wo_val (.int .i64 (j : Int)) rfl pv_move ?_
    refine wo_val (.int .i64 (j : Int)) rfl pv_assign ?_
    refine wo_nil ?_
    refine wr_seq ?_
    refine wr_region ?_
    refine wo_val (.func (.func 71) [] [(.ptr (ix ids 0) g 0 0), (.ptr (ix ids 1) g1 0 0)]) rfl pv_move ?_
    refine wo_val (.sl 4 (List.map rClass s)) rfl pv_move ?_
    refine wo_val (.int .i64 (j : Int)) rfl pv_move ?_
    refine wo_val (.cp (rClass a) 0) rfl (pv_ixa (ixa_nat ti28 ti43 rfl ha)) ?_
    refine wo_val (.agg (rClass a)) rfl (pv_load (ld_cp ti43 rfl)) ?_
    refine of_callG [0, 1] hI rfl rfl (cg_names_find_Class_c1 a s1 _ (ix ids 0) (ix ids 1) g g1 (by exact hI.sub' rfl rfl)) rfl rfl rfl rfl rfl rfl (fun v _ => wu_panG (K := 2) (N := 0) Try.func70 hI) ?_
    rintro r _ _ _ ⟨rfl, rfl⟩
    refine wo_putH [0, 1] [(some (.rows g 1 [[(.func (.func 37) [] [])]])), (some (.rows g1 1 [[(.str s1)]]))] hI rfl rfl rfl rfl ?_
    refine wo_put1 ?_
    refine wo_nil ?_
    refine wf_iteb rfl (fun hc => ?_) (fun hc => ?_)
    · refine wr_seq ?_
      refine wr_region ?_
      refine wo_val (.int .i64 (j : Int)) rfl pv_move ?_
      refine wo_val (.int .i64 (j : Int)) rfl pv_assign ?_
      refine wo_nil ?_
      refine wx_each ?_
      refine w_altr ?_
      exact wr_retG (K := 2) (N := 0) (a := (j : Int)) (vs := [(.int .i64 (j : Int))]) [some (.rows g 1 [[(.func (.func 37) [] [])]]), some (.rows g1 1 [[(.str s1)]])] Try.func70 hI rfl rfl rfl (.keep (.keep .nil)) (.same _) ⟨rfl, rfl⟩
    · refine wr_skip ?_
      refine wr_inBlock ?_
      refine wr_region ?_
      refine wo_val (.int .i64 (IntKind.wrap .i64 ((j : Int) + 1))) rfl (pv_bin rfl rfl rfl) ?_
      refine wo_val (.int .i64 (IntKind.wrap .i64 ((j : Int) + 1))) rfl pv_move ?_
      refine wo_nil ?_
      refine wr_is [(0, (.sl 4 (List.map rClass s))), (1, (.func (.func 71) [] [(.ptr (ix ids 0) g 0 0), (.ptr (ix ids 1) g1 0 0)])), (7, (.int .i64 (s.length : Int))), (8, (.int .i64 ((j + 1 : Nat) : Int)))] (.cons rfl (.cons rfl (.cons rfl (.cons (inc_ok (lt_of_get ha) hlim) .nil)))) ?_
      refine wb_each ?_
      refine hW () _ _ ?_
      exact ⟨rfl, rfl⟩
  · rintro _ fr h ⟨rfl, rfl⟩
    refine wr_mod (alt_inl _ _ _) ?_
    refine wr_seq ?_
    refine wr_region ?_
    refine wo_val (.bool (decide ((s.length : Int) < (s.length : Int)))) rfl (pv_bin rfl rfl rfl) ?_
    refine wo_nil ?_
    refine wr_seq ?_
    refine wr_condF rfl (Int.lt_irrefl _) ?_
    refine wr_exit rfl ?_
    refine wr_seq ?_
    refine wr_region ?_
    refine wo_val (.int .i64 (-1)) rfl pv_assign ?_
    refine wo_nil ?_
    exact wr_retG (K := 2) (N := 0) (a := (-1)) (vs := [(.int .i64 (-1))]) [some (.rows g 1 [[(.func (.func 37) [] [])]]), some (.rows g1 1 [[(.str s1)]])] Try.func70 hI rfl rfl rfl (.keep (.keep .nil)) (.same _) ⟨rfl, rfl⟩

theorem cp_names_find_Class_class (l : (List Class)) (name : Str) : CP Try.prog 60 [(.sl 4 (List.map rClass l)), (.func (.func 37) [] []), (.str name)] (names_find_Class_class l name) (fun (p : (Int × Bool)) => AV.tup [(.int .i64 p.1), (.bool p.2)]) := by
  refine cp_intro (n := 14) 2 Try.func60 rfl (by decide) rfl rfl fun h0 ids hI => ?_
  refine wr_in (wr_mod (names_find_Class_class.eq_1 _ _) ?_)
  refine wr_seq ?_
  refine wr_region ?_
  refine wo_box (v := (.func (.func 37) [] [])) (j := 0) hI rfl rfl rfl rfl rfl rfl rfl fun g => ?_
  refine wo_box (v := (.str name)) (j := 1) hI rfl rfl rfl rfl rfl rfl rfl fun g1 => ?_
  refine wo_val (.int .i64 0) rfl pv_assign ?_
  refine wo_val (.bool false) rfl pv_assign ?_
  refine wo_nil ?_
  refine wr_hp [(some (.rows g 1 [[(.func (.func 37) [] [])]])), (some (.rows g1 1 [[(.str name)]]))] rfl ?_
  refine wr_seq ?_
  refine wr_seq ?_
  refine wr_region ?_
  refine wo_val (.sl 4 (List.map rClass l)) rfl pv_move ?_
  refine wo_val (.func (.func 71) [] [(.ptr (ix ids 0) g 0 0), (.ptr (ix ids 1) g1 0 0)]) rfl pv_func ?_
  refine of_callG [0, 1] hI rfl rfl (cg_slices_IndexFunc_Class_c1 l name _ (ix ids 0) (ix ids 1) g g1 (by exact hI.sub' rfl rfl)) rfl rfl rfl rfl rfl rfl (fun v _ => wu_pan Try.func60 hI) ?_
  rintro n _ _ _ ⟨rfl, rfl⟩
  refine wo_putH [0, 1] [(some (.rows g 1 [[(.func (.func 37) [] [])]])), (some (.rows g1 1 [[(.str name)]]))] hI rfl rfl rfl rfl ?_
  refine wo_put1 ?_
  refine wo_val (.int .i64 n) rfl pv_assign ?_
  refine wo_nil ?_
  refine wr_seq ?_
  refine wr_region ?_
  refine wo_val (.int .i64 n) rfl pv_move ?_
  refine wo_val (.bool (decide (n < 0))) rfl (pv_bin rfl rfl rfl) ?_
  refine wo_nil ?_
  refine wf_ite rfl (fun hc => ?_) (fun hc => ?_)
  · refine wr_seq ?_
    refine wr_region ?_
    refine wo_val (.int .i64 0) rfl pv_assign ?_
    refine wo_val (.bool false) rfl pv_assign ?_
    refine wo_nil ?_
    exact wr_ret (a := (0, false)) (vs := [(.int .i64 0), (.bool false)]) Try.func60 hI rfl (.tupL (.cons (.same _) (.cons (.same _) .nil)))
  · refine wr_skip ?_
    refine wr_seq ?_
    refine wr_region ?_
    refine wo_val (.int .i64 n) rfl pv_move ?_
    refine wo_val (.int .i64 n) rfl pv_assign ?_
    refine wo_val (.bool true) rfl pv_assign ?_
    refine wo_nil ?_
    exact wr_ret (a := (n, true)) (vs := [(.int .i64 n), (.bool true)]) Try.func60 hI rfl (.tupL (.cons (.same _) (.cons (.same _) .nil)))

theorem cp_names_Class (a : Airspace) (name : Str) : CP Try.prog 19 [(.agg (rAirspace a)), (.str name)] (names_Class a name) (fun (p : (Int × Bool)) => AV.tup [(.int .i64 p.1), (.bool p.2)]) := by
  refine cp_intro (n := 12) 1 Try.func19 rfl (by decide) rfl rfl fun h0 ids hI => ?_
  refine wr_in (wr_mod (names_Class.eq_1 _ _) ?_)
  refine wr_seq ?_
  refine wr_region ?_
  refine wo_box (v := (.agg (rAirspace a))) (j := 0) hI rfl rfl rfl rfl rfl rfl rfl fun g => ?_
  refine wo_val (.int .i64 0) rfl pv_assign ?_
  refine wo_val (.bool false) rfl pv_assign ?_
  refine wo_nil ?_
  refine wr_hp [(some (.rows g 8 [(rAirspace a)]))] rfl ?_
  refine wr_seq ?_
  refine wr_region ?_
  refine wo_val (.ptr (ix ids 0) g 0 6) rfl (pv_fa (fa_ptr (c := 0) (off := 6) (i := 6) ti31 rfl ti28 rfl)) ?_
  refine wo_val (.sl 4 (List.map rClass a.Classes)) rfl (pv_load (ld_ptr hI rfl rfl rfl ti28 rfl)) ?_
  refine wo_val (.str name) rfl pv_move ?_
  refine of_call [(.sl 4 (List.map rClass a.Classes)), (.func (.func 37) [] []), (.str name)] rfl rfl rfl rfl ((cp_names_find_Class_class a.Classes name) _) (fun v _ => wu_pan Try.func19 hI) fun r _ => ?_
  refine wo_val (.int .i64 r.1) rfl (pv_ext rfl) ?_
  refine wo_val (.bool r.2) rfl (pv_ext rfl) ?_
  refine wo_val (.int .i64 r.1) rfl pv_assign ?_
  refine wo_val (.bool r.2) rfl pv_assign ?_
  refine wo_nil ?_
  exact wr_ret (a := (r.1, r.2)) (vs := [(.int .i64 r.1), (.bool r.2)]) Try.func19 hI rfl (.tupL (.cons (.same _) (.cons (.same _) .nil)))

theorem cg_names_find_Airport_c1 (a : Airport) (s1 : Str) (h0 : AHeap) (o0 : Nat) (o1 : Nat) (g : Nat) (g1 : Nat) (hI0 : Ids h0 [o0, o1] 2) : names_find_Airport_c1 a s1 ≠ .bad → ACalls Try.prog 69 [(.agg (rAirport a)), (.ptr o0 g 0 0), (.ptr o1 g1 0 0)] (hp h0 [o0, o1] [some (.rows g 1 [[(.func (.func 35) [] [])]]), some (.rows g1 1 [[(.str s1)]])]) (AnsG (fun a_ v h' => v = (.bool a_) ∧ h' = hp h0 [o0, o1] [some (.rows g 1 [[(.func (.func 35) [] [])]]), some (.rows g1 1 [[(.str s1)]])]) h0 (names_find_Airport_c1 a s1)) := by
  refine cpg_intro (n := 10) 1 Try.func69 rfl (by decide) rfl rfl hI0 rfl fun ids he hI => ?_
  clear hI0
  obtain rfl : ix ids 0 = o0 := he 0 rfl
  obtain rfl : ix ids 1 = o1 := he 1 rfl
  clear he
  refine wr_in (wr_mod (names_find_Airport_c1.eq_1 _ _) ?_)
  refine wr_hp [(some (.rows g 1 [[(.func (.func 35) [] [])]])), (some (.rows g1 1 [[(.str s1)]])), none] rfl ?_
  refine wr_seq ?_
  refine wr_region ?_
  refine wo_box (v := (.agg (rAirport a))) (j := 2) hI rfl rfl rfl rfl rfl rfl rfl fun g2 => ?_
  refine wo_val (.bool false) rfl pv_assign ?_
  refine wo_nil ?_
  refine wr_hp [(some (.rows g 1 [[(.func (.func 35) [] [])]])), (some (.rows g1 1 [[(.str s1)]])), (some (.rows g2 2 [(rAirport a)]))] rfl ?_
  refine wr_seq ?_
  refine wr_draw hmix [[], [], [0, 1], [], [0, 1, 2, 3], [0, 1, 2, 2, 3, 4, 4]] [(false, 0), (false, 1), (false, 3), (true, 2), (false, 4), (false, 5)] (by kernel_rfl) ?_
  refine wp_val (.func (.func 35) [] []) rfl rfl (pv_load (ld_ptr hI rfl rfl rfl ti82 rfl)) ?_
  refine wp_val (.agg (rAirport a)) rfl rfl (pv_load (ld_ptr hI rfl rfl rfl ti46 rfl)) ?_
  refine wp_val (.str s1) rfl rfl (pv_load (ld_ptr hI rfl rfl rfl ti9 rfl)) ?_
  refine wp_call [(.agg (rAirport a))] rfl rfl rfl rfl rfl ((cp_names_airport a) _) (fun v _ _ _ => wu_panG (K := 2) (N := 1) Try.func69 hI) (pend_no rfl (pv_load (ld_ptr hI rfl rfl rfl ti9 rfl)) (pend_yes rfl (pend_yes rfl pend_nil))) fun r _ => ?_
  refine wp_val (.bool (r == s1)) rfl rfl (pv_bin rfl rfl rfl) ?_
  refine wp_val (.bool (r == s1)) rfl rfl pv_assign ?_
  refine wp_nil ?_
  exact wr_retG (K := 2) (N := 1) (a := (r == s1)) (vs := [(.bool (r == s1))]) [some (.rows g 1 [[(.func (.func 35) [] [])]]), some (.rows g1 1 [[(.str s1)]])] Try.func69 hI rfl rfl rfl (.keep (.keep (.drop .nil))) (.same _) ⟨rfl, rfl⟩

theorem cg_slices_IndexFunc_Airport_c1 (s : (List Airport)) (s1 : Str) (h0 : AHeap) (o0 : Nat) (o1 : Nat) (g : Nat) (g1 : Nat) (hI0 : Ids h0 [o0, o1] 2) : slices_IndexFunc_Airport_c1 s s1 ≠ .bad → ACalls Try.prog 68 [(.sl 2 (List.map rAirport s)), (.func (.func 69) [] [(.ptr o0 g 0 0), (.ptr o1 g1 0 0)])] (hp h0 [o0, o1] [some (.rows g 1 [[(.func (.func 35) [] [])]]), some (.rows g1 1 [[(.str s1)]])]) (AnsG (fun a_ v h' => v = (.int .i64 a_) ∧ h' = hp h0 [o0, o1] [some (.rows g 1 [[(.func (.func 35) [] [])]]), some (.rows g1 1 [[(.str s1)]])]) h0 (slices_IndexFunc_Airport_c1 s s1)) := by
  refine cpg_intro (n := 19) 0 Try.func68 rfl (by decide) rfl rfl hI0 rfl fun ids he hI => ?_
  clear hI0
  obtain rfl : ix ids 0 = o0 := he 0 rfl
  obtain rfl : ix ids 1 = o1 := he 1 rfl
  clear he
  refine wr_in (wr_mod (slices_IndexFunc_Airport_c1.eq_1 _ _) ?_)
  refine wr_seq ?_
  refine wr_region ?_
  refine wo_val (.int .i64 0) rfl pv_assign ?_
  refine wo_nil ?_
  refine wr_seq ?_
  refine wr_seq ?_
  refine wr_region ?_
  refine wo_val (.sl 2 (List.map rAirport s)) rfl pv_move ?_
  refine wo_val (.int .i64 (s.length : Int)) rfl (pv_len (len_sl ti27)) ?_
  refine wo_val (.int .i64 0) rfl pv_move ?_
  refine wo_nil ?_
  refine wr_block ?_
  refine wr_is [(0, (.sl 2 (List.map rAirport s))), (1, (.func (.func 69) [] [(.ptr (ix ids 0) g 0 0), (.ptr (ix ids 1) g1 0 0)])), (7, (.int .i64 (s.length : Int))), (8, (.int .i64 0))] (.cons rfl (.cons rfl (.cons rfl (.cons rfl .nil)))) ?_
  refine wf_each' (P := Try.prog) s (fun j a => fun _ => slices_IndexFunc_Airport_c1_b1 s1 j a) ((alt (fun _ => .ok (-1)) (fun r => .ok r)) : (Unit ⊕ Int) → R Int)
    (fun j => fun _ => fun (fr : Nat → AV) (h : AHeap) => fr = frA [(0, (.sl 2 (List.map rAirport s))), (1, (.func (.func 69) [] [(.ptr (ix ids 0) g 0 0), (.ptr (ix ids 1) g1 0 0)])), (7, (.int .i64 (s.length : Int))), (8, (.int .i64 (j : Int)))] ∧ h = hp h0 ids [(some (.rows g 1 [[(.func (.func 35) [] [])]])), (some (.rows g1 1 [[(.str s1)]]))]) () ?_ ?_ ?_
  · exact ⟨rfl, rfl⟩
  · rintro j a ha W hW _ fr h ⟨rfl, rfl⟩
    refine wr_mod (m' := slices_IndexFunc_Airport_c1_b1 s1 j a) rfl (wr_mod (slices_IndexFunc_Airport_c1_b1.eq_1 _ _ _) ?_)
    refine wr_seq ?_
    refine wr_region ?_
    refine wo_val (.bool (decide ((j : Int) < (s.length : Int)))) rfl (pv_bin rfl rfl rfl) ?_
    refine wo_nil ?_
    refine wr_seq ?_
    refine wr_lim (t := 0) (L := s) rfl fun hlim => ?_
    refine wr_condT rfl (Int.ofNat_lt.2 (lt_of_get ha)) ?_
    refine wr_skip ?_
    refine wr_seq ?_
    refine wr_block ?_
    refine wr_seq ?_
    refine wr_region ?_
    refine wo_val (.int .i64 (j : Int)) rfl pv_move ?_
    refine wo_val (.int .i64 (j : Int)) rfl pv_assign ?_
    refine wo_nil ?_
    refine wr_seq ?_
    refine wr_region ?_
    refine wo_val (.func (.func 69) [] [(.ptr (ix ids 0) g 0 0), (.ptr (ix ids 1) g1 0 0)]) rfl pv_move ?_
    refine wo_val (.sl 2 (List.map rAirport s)) rfl pv_move ?_
    refine wo_val (.int .i64 (j : Int)) rfl pv_move ?_
    refine wo_val (.cp (rAirport a) 0) rfl (pv_ixa (ixa_nat ti27 ti46 rfl ha)) ?_
    refine wo_val (.agg (rAirport a)) rfl (pv_load (ld_cp ti46 rfl)) ?_
    refine of_callG [0, 1] hI rfl rfl (cg_names_find_Airport_c1 a s1 _ (ix ids 0) (ix ids 1) g g1 (by exact hI.sub' rfl rfl)) rfl rfl rfl rfl rfl rfl (fun v _ => wu_panG (K := 2) (N := 0) Try.func68 hI) ?_
    rintro r _ _ _ ⟨rfl, rfl⟩
    refine wo_putH [0, 1] [(some (.rows g 1 [[(.func (.func 35) [] [])]])), (some (.rows g1 1 [[(.str s1)]]))] hI rfl rfl rfl rfl ?_
    refine wo_put1 ?_
    refine wo_nil ?_
    refine wf_iteb rfl (fun hc => ?_) (fun hc => ?_)
    · refine wr_seq ?_
      refine wr_region ?_
      refine wo_val (.int .i64 (j : Int)) rfl pv_move ?_
      refine wo_val (.int .i64 (j : Int)) rfl pv_assign ?_
      refine wo_nil ?_
      refine wx_each ?_
      refine w_altr ?_
      exact wr_retG (K := 2) (N := 0) (a := (j : Int)) (vs := [(.int .i64 (j : Int))]) [some (.rows g 1 [[(.func (.func 35) [] [])]]), some (.rows g1 1 [[(.str s1)]])] Try.func68 hI rfl rfl rfl (.keep (.keep .nil)) (.same _) ⟨rfl, rfl⟩
    · refine wr_skip ?_
      refine wr_inBlock ?_
      refine wr_region ?_
      refine wo_val (.int .i64 (IntKind.wrap .i64 ((j : Int) + 1))) rfl (pv_bin rfl rfl rfl) ?_
      refine wo_val (.int .i64 (IntKind.wrap .i64 ((j : Int) + 1))) rfl pv_move ?_
      refine wo_nil ?_
      refine wr_is [(0, (.sl 2 (List.map rAirport s))), (1, (.func (.func 69) [] [(.ptr (ix ids 0) g 0 0), (.ptr (ix ids 1) g1 0 0)])), (7, (.int .i64 (s.length : Int))), (8, (.int .i64 ((j + 1 : Nat) : Int)))] (.cons rfl (.cons rfl (.cons rfl (.cons (inc_ok (lt_of_get ha) hlim) .nil)))) ?_
      refine wb_each ?_
      refine hW () _ _ ?_
      exact ⟨rfl, rfl⟩
  · rintro _ fr h ⟨rfl, rfl⟩
    refine wr_mod (alt_inl _ _ _) ?_
    refine wr_seq ?_
    refine wr_region ?_
    refine wo_val (.bool (decide ((s.length : Int) < (s.length : Int)))) rfl (pv_bin rfl rfl rfl) ?_
    refine wo_nil ?_
    refine wr_seq ?_
    refine wr_condF rfl (Int.lt_irrefl _) ?_
    refine wr_exit rfl ?_
    refine wr_seq ?_
    refine wr_region ?_
    refine wo_val (.int .i64 (-1)) rfl pv_assign ?_
    refine wo_nil ?_
    exact wr_retG (K := 2) (N := 0) (a := (-1)) (vs := [(.int .i64 (-1))]) [some (.rows g 1 [[(.func (.func 35) [] [])]]), some (.rows g1 1 [[(.str s1)]])] Try.func68 hI rfl rfl rfl (.keep (.keep .nil)) (.same _) ⟨rfl, rfl⟩

theorem cp_names_find_Airport_airport (l : (List Airport)) (name : Str) : CP Try.prog 59 [(.sl 2 (List.map rAirport l)), (.func (.func 35) [] []), (.str name)] (names_find_Airport_airport l name) (fun (p : (Int × Bool)) => AV.tup [(.int .i64 p.1), (.bool p.2)]) := by
  refine cp_intro (n := 14) 2 Try.func59 rfl (by decide) rfl rfl fun h0 ids hI => ?_
  refine wr_in (wr_mod (names_find_Airport_airport.eq_1 _ _) ?_)
  refine wr_seq ?_
  refine wr_region ?_
  refine wo_box (v := (.func (.func 35) [] [])) (j := 0) hI rfl rfl rfl rfl rfl rfl rfl fun g => ?_
  refine wo_box (v := (.str name)) (j := 1) hI rfl rfl rfl rfl rfl rfl rfl fun g1 => ?_
  refine wo_val (.int .i64 0) rfl pv_assign ?_
  refine wo_val (.bool false) rfl pv_assign ?_
  refine wo_nil ?_
  refine wr_hp [(some (.rows g 1 [[(.func (.func 35) [] [])]])), (some (.rows g1 1 [[(.str name)]]))] rfl ?_
  refine wr_seq ?_
  refine wr_seq ?_
  refine wr_region ?_
  refine wo_val (.sl 2 (List.map rAirport l)) rfl pv_move ?_
  refine wo_val (.func (.func 69) [] [(.ptr (ix ids 0) g 0 0), (.ptr (ix ids 1) g1 0 0)]) rfl pv_func ?_
  refine of_callG [0, 1] hI rfl rfl (cg_slices_IndexFunc_Airport_c1 l name _ (ix ids 0) (ix ids 1) g g1 (by exact hI.sub' rfl rfl)) rfl rfl rfl rfl rfl rfl (fun v _ => wu_pan Try.func59 hI) ?_
  rintro n _ _ _ ⟨rfl, rfl⟩
  refine wo_putH [0, 1] [(some (.rows g 1 [[(.func (.func 35) [] [])]])), (some (.rows g1 1 [[(.str name)]]))] hI rfl rfl rfl rfl ?_
  refine wo_put1 ?_
  refine wo_val (.int .i64 n) rfl pv_assign ?_
  refine wo_nil ?_
  refine wr_seq ?_
  refine wr_region ?_
  refine wo_val (.int .i64 n) rfl pv_move ?_
  refine wo_val (.bool (decide (n < 0))) rfl (pv_bin rfl rfl rfl) ?_
  refine wo_nil ?_
  refine wf_ite rfl (fun hc => ?_) (fun hc => ?_)
  · refine wr_seq ?_
    refine wr_region ?_
    refine wo_val (.int .i64 0) rfl pv_assign ?_
    refine wo_val (.bool false) rfl pv_assign ?_
    refine wo_nil ?_
    exact wr_ret (a := (0, false)) (vs := [(.int .i64 0), (.bool false)]) Try.func59 hI rfl (.tupL (.cons (.same _) (.cons (.same _) .nil)))
  · refine wr_skip ?_
    refine wr_seq ?_
    refine wr_region ?_
    refine wo_val (.int .i64 n) rfl pv_move ?_
    refine wo_val (.int .i64 n) rfl pv_assign ?_
    refine wo_val (.bool true) rfl pv_assign ?_
    refine wo_nil ?_
    exact wr_ret (a := (n, true)) (vs := [(.int .i64 n), (.bool true)]) Try.func59 hI rfl (.tupL (.cons (.same _) (.cons (.same _) .nil)))

theorem cp_names_Airport (a : Airspace) (name : Str) : CP Try.prog 17 [(.agg (rAirspace a)), (.str name)] (names_Airport a name) (fun (p : (Int × Bool)) => AV.tup [(.int .i64 p.1), (.bool p.2)]) := by
  refine cp_intro (n := 12) 1 Try.func17 rfl (by decide) rfl rfl fun h0 ids hI => ?_
  refine wr_in (wr_mod (names_Airport.eq_1 _ _) ?_)
  refine wr_seq ?_
  refine wr_region ?_
  refine wo_box (v := (.agg (rAirspace a))) (j := 0) hI rfl rfl rfl rfl rfl rfl rfl fun g => ?_
  refine wo_val (.int .i64 0) rfl pv_assign ?_
  refine wo_val (.bool false) rfl pv_assign ?_
  refine wo_nil ?_
  refine wr_hp [(some (.rows g 8 [(rAirspace a)]))] rfl ?_
  refine wr_seq ?_
  refine wr_region ?_
  refine wo_val (.ptr (ix ids 0) g 0 5) rfl (pv_fa (fa_ptr (c := 0) (off := 5) (i := 5) ti31 rfl ti27 rfl)) ?_
  refine wo_val (.sl 2 (List.map rAirport a.Airports)) rfl (pv_load (ld_ptr hI rfl rfl rfl ti27 rfl)) ?_
  refine wo_val (.str name) rfl pv_move ?_
  refine of_call [(.sl 2 (List.map rAirport a.Airports)), (.func (.func 35) [] []), (.str name)] rfl rfl rfl rfl ((cp_names_find_Airport_airport a.Airports name) _) (fun v _ => wu_pan Try.func17 hI) fun r _ => ?_
  refine wo_val (.int .i64 r.1) rfl (pv_ext rfl) ?_
  refine wo_val (.bool r.2) rfl (pv_ext rfl) ?_
  refine wo_val (.int .i64 r.1) rfl pv_assign ?_
  refine wo_val (.bool r.2) rfl pv_assign ?_
  refine wo_nil ?_
  exact wr_ret (a := (r.1, r.2)) (vs := [(.int .i64 r.1), (.bool r.2)]) Try.func17 hI rfl (.tupL (.cons (.same _) (.cons (.same _) .nil)))

theorem cp_ref08_SameInts (a : (List Int)) (b : (List Int)) : CP Try.prog 22 [(.sl 1 (List.map (rI .i64) a)), (.sl 1 (List.map (rI .i64) b))] (ref08_SameInts a b) (fun (x : Bool) => (AV.bool x)) := by
  refine cp_intro (n := 26) 0 Try.func22 rfl (by decide) rfl rfl fun h0 ids hI => ?_
  refine wr_in (wr_mod (ref08_SameInts.eq_1 _ _) ?_)
  refine wr_seq ?_
  refine wr_region ?_
  refine wo_val (.bool false) rfl pv_assign ?_
  refine wo_nil ?_
  refine wr_seq ?_
  refine wr_seq ?_
  refine wr_region ?_
  refine wo_val (.sl 1 (List.map (rI .i64) a)) rfl pv_move ?_
  refine wo_val (.int .i64 (a.length : Int)) rfl (pv_len (len_sl ti51)) ?_
  refine wo_val (.sl 1 (List.map (rI .i64) b)) rfl pv_move ?_
  refine wo_val (.int .i64 (b.length : Int)) rfl (pv_len (len_sl ti51)) ?_
  refine wo_val (.bool ((a.length : Int) != (b.length : Int))) rfl (pv_bin rfl rfl rfl) ?_
  refine wo_nil ?_
  refine wf_iteb rfl (fun hc => ?_) (fun hc => ?_)
  · refine wr_seq ?_
    refine wr_region ?_
    refine wo_val (.bool false) rfl pv_assign ?_
    refine wo_nil ?_
    exact wr_ret (a := false) (vs := [(.bool false)]) Try.func22 hI rfl (.same _)
  · refine wr_skip ?_
    refine wr_seq ?_
    refine wr_seq ?_
    refine wr_region ?_
    refine wo_val (.int .i64 0) rfl pv_assign ?_
    refine wo_nil ?_
    refine wr_block ?_
    refine wr_is [(0, (.sl 1 (List.map (rI .i64) a))), (1, (.sl 1 (List.map (rI .i64) b))), (5, (.int .i64 0))] (.cons rfl (.cons rfl (.cons rfl .nil))) ?_
    refine wf_each' (P := Try.prog) a (fun j a1 => fun _ => ref08_SameInts_b1 b j a1) ((alt (fun _ => .ok true) (fun r => .ok r)) : (Unit ⊕ Bool) → R Bool)
      (fun j => fun _ => fun (fr : Nat → AV) (h : AHeap) => fr = frA [(0, (.sl 1 (List.map (rI .i64) a))), (1, (.sl 1 (List.map (rI .i64) b))), (5, (.int .i64 (j : Int)))] ∧ h = hp h0 ids []) () ?_ ?_ ?_
    · exact ⟨rfl, rfl⟩
    · rintro j a1 ha1 W hW _ fr h ⟨rfl, rfl⟩
      refine wr_mod (m' := ref08_SameInts_b1 b j a1) rfl (wr_mod (ref08_SameInts_b1.eq_1 _ _ _) ?_)
      refine wr_seq ?_
      refine wr_seq ?_
      refine wr_region ?_
      refine wo_val (.int .i64 (j : Int)) rfl pv_move ?_
      refine wo_val (.sl 1 (List.map (rI .i64) a)) rfl pv_move ?_
      refine wo_val (.int .i64 (a.length : Int)) rfl (pv_len (len_sl ti51)) ?_
      refine wo_val (.bool (decide ((j : Int) < (a.length : Int)))) rfl (pv_bin rfl rfl rfl) ?_
      refine wo_nil ?_
      refine wr_lim (t := 0) (L := a) rfl fun hlim => ?_
      refine wr_condT rfl (Int.ofNat_lt.2 (lt_of_get ha1)) ?_
      refine wr_skip ?_
      refine wr_seq ?_
      refine wr_block ?_
      refine wr_seq ?_
      refine wr_draw hmix [[], [], [0, 1], [0, 1, 2], [], [], [4, 5], [4, 5, 6], [0, 1, 2, 3, 4, 5, 6, 7]] [(false, 0), (false, 1), (false, 2), (false, 3), (false, 4), (false, 5), (false, 6), (false, 7), (false, 8)] (by kernel_rfl) ?_
      refine wp_val (.sl 1 (List.map (rI .i64) a)) rfl rfl pv_move ?_
      refine wp_val (.int .i64 (j : Int)) rfl rfl pv_move ?_
      refine wp_val (.cp [(.int .i64 a1)] 0) rfl rfl (pv_ixa (ixa_nat ti51 ti3 rfl ha1)) ?_
      refine wp_val (.int .i64 a1) rfl rfl (pv_load (ld_cp ti3 rfl)) ?_
      refine wp_val (.sl 1 (List.map (rI .i64) b)) rfl rfl pv_move ?_
      refine wp_val (.int .i64 (j : Int)) rfl rfl pv_move ?_
      refine op_idx fun a2 hz hx1 => ?_
      refine wp_val (.cp [(.int .i64 a2)] 0) rfl rfl (pv_ixa (ixa_sl ti51 ti3 rfl hz hx1)) ?_
      refine wp_val (.int .i64 a2) rfl rfl (pv_load (ld_cp ti3 rfl)) ?_
      refine wp_val (.bool (a1 != a2)) rfl rfl (pv_bin rfl rfl rfl) ?_
      refine wp_nil ?_
      refine wf_iteb rfl (fun hc1 => ?_) (fun hc1 => ?_)
      · refine wr_seq ?_
        refine wr_region ?_
        refine wo_val (.bool false) rfl pv_assign ?_
        refine wo_nil ?_
        refine wx_each ?_
        refine w_altr ?_
        exact wr_ret (a := false) (vs := [(.bool false)]) Try.func22 hI rfl (.same _)
      · refine wr_skip ?_
        refine wr_inBlock ?_
        refine wr_region ?_
        refine wo_val (.int .i64 (j : Int)) rfl pv_move ?_
        refine wo_val (.int .i64 (IntKind.wrap .i64 ((j : Int) + 1))) rfl (pv_bin rfl rfl rfl) ?_
        refine wo_val (.int .i64 (IntKind.wrap .i64 ((j : Int) + 1))) rfl pv_assign ?_
        refine wo_nil ?_
        refine wr_is [(0, (.sl 1 (List.map (rI .i64) a))), (1, (.sl 1 (List.map (rI .i64) b))), (5, (.int .i64 ((j + 1 : Nat) : Int)))] (.cons rfl (.cons rfl (.cons (inc_ok (lt_of_get ha1) hlim) .nil))) ?_
        refine wb_each ?_
        refine hW () _ _ ?_
        exact ⟨rfl, rfl⟩
    · rintro _ fr h ⟨rfl, rfl⟩
      refine wr_mod (alt_inl _ _ _) ?_
      refine wr_seq ?_
      refine wr_seq ?_
      refine wr_region ?_
      refine wo_val (.int .i64 (a.length : Int)) rfl pv_move ?_
      refine wo_val (.sl 1 (List.map (rI .i64) a)) rfl pv_move ?_
      refine wo_val (.int .i64 (a.length : Int)) rfl (pv_len (len_sl ti51)) ?_
      refine wo_val (.bool (decide ((a.length : Int) < (a.length : Int)))) rfl (pv_bin rfl rfl rfl) ?_
      refine wo_nil ?_
      refine wr_condF rfl (Int.lt_irrefl _) ?_
      refine wr_exit rfl ?_
      refine wr_seq ?_
      refine wr_region ?_
      refine wo_val (.bool true) rfl pv_assign ?_
      refine wo_nil ?_
      exact wr_ret (a := true) (vs := [(.bool true)]) Try.func22 hI rfl (.same _)

theorem cp_ref08_SameSpans (a : (List Span)) (b : (List Span)) : CP Try.prog 54 [(.sl 2 (List.map rSpan a)), (.sl 2 (List.map rSpan b))] (ref08_SameSpans a b) (fun (x : Bool) => (AV.bool x)) := by
  refine cp_intro (n := 26) 0 Try.func54 rfl (by decide) rfl rfl fun h0 ids hI => ?_
  refine wr_in (wr_mod (ref08_SameSpans.eq_1 _ _) ?_)
  refine wr_seq ?_
  refine wr_region ?_
  refine wo_val (.bool false) rfl pv_assign ?_
  refine wo_nil ?_
  refine wr_seq ?_
  refine wr_seq ?_
  refine wr_region ?_
  refine wo_val (.sl 2 (List.map rSpan a)) rfl pv_move ?_
  refine wo_val (.int .i64 (a.length : Int)) rfl (pv_len (len_sl ti39)) ?_
  refine wo_val (.sl 2 (List.map rSpan b)) rfl pv_move ?_
  refine wo_val (.int .i64 (b.length : Int)) rfl (pv_len (len_sl ti39)) ?_
  refine wo_val (.bool ((a.length : Int) != (b.length : Int))) rfl (pv_bin rfl rfl rfl) ?_
  refine wo_nil ?_
  refine wf_iteb rfl (fun hc => ?_) (fun hc => ?_)
  · refine wr_seq ?_
    refine wr_region ?_
    refine wo_val (.bool false) rfl pv_assign ?_
    refine wo_nil ?_
    exact wr_ret (a := false) (vs := [(.bool false)]) Try.func54 hI rfl (.same _)
  · refine wr_skip ?_
    refine wr_seq ?_
    refine wr_seq ?_
    refine wr_region ?_
    refine wo_val (.int .i64 0) rfl pv_assign ?_
    refine wo_nil ?_
    refine wr_block ?_
    refine wr_is [(0, (.sl 2 (List.map rSpan a))), (1, (.sl 2 (List.map rSpan b))), (5, (.int .i64 0))] (.cons rfl (.cons rfl (.cons rfl .nil))) ?_
    refine wf_each' (P := Try.prog) a (fun j a1 => fun _ => ref08_SameSpans_b1 b j a1) ((alt (fun _ => .ok true) (fun r => .ok r)) : (Unit ⊕ Bool) → R Bool)
      (fun j => fun _ => fun (fr : Nat → AV) (h : AHeap) => fr = frA [(0, (.sl 2 (List.map rSpan a))), (1, (.sl 2 (List.map rSpan b))), (5, (.int .i64 (j : Int)))] ∧ h = hp h0 ids []) () ?_ ?_ ?_
    · exact ⟨rfl, rfl⟩
    · rintro j a1 ha1 W hW _ fr h ⟨rfl, rfl⟩
      refine wr_mod (m' := ref08_SameSpans_b1 b j a1) rfl (wr_mod (ref08_SameSpans_b1.eq_1 _ _ _) ?_)
      refine wr_seq ?_
      refine wr_seq ?_
      refine wr_region ?_
      refine wo_val (.int .i64 (j : Int)) rfl pv_move ?_
      refine wo_val (.sl 2 (List.map rSpan a)) rfl pv_move ?_
      refine wo_val (.int .i64 (a.length : Int)) rfl (pv_len (len_sl ti39)) ?_
      refine wo_val (.bool (decide ((j : Int) < (a.length : Int)))) rfl (pv_bin rfl rfl rfl) ?_
      refine wo_nil ?_
      refine wr_lim (t := 0) (L := a) rfl fun hlim => ?_
      refine wr_condT rfl (Int.ofNat_lt.2 (lt_of_get ha1)) ?_
      refine wr_skip ?_
      refine wr_seq ?_
      refine wr_block ?_
      refine wr_seq ?_
      refine wr_draw hmix [[], [], [0, 1], [0, 1, 2], [], [], [4, 5], [4, 5, 6], [0, 1, 2, 3, 4, 5, 6, 7]] [(false, 0), (false, 1), (false, 2), (false, 3), (false, 4), (false, 5), (false, 6), (false, 7), (false, 8)] (by kernel_rfl) ?_
      refine wp_val (.sl 2 (List.map rSpan a)) rfl rfl pv_move ?_
      refine wp_val (.int .i64 (j : Int)) rfl rfl pv_move ?_
      refine wp_val (.cp (rSpan a1) 0) rfl rfl (pv_ixa (ixa_nat ti39 ti61 rfl ha1)) ?_
      refine wp_val (.agg (rSpan a1)) rfl rfl (pv_load (ld_cp ti61 rfl)) ?_
      refine wp_val (.sl 2 (List.map rSpan b)) rfl rfl pv_move ?_
      refine wp_val (.int .i64 (j : Int)) rfl rfl pv_move ?_
      refine op_idx fun a2 hz hx1 => ?_
      refine wp_val (.cp (rSpan a2) 0) rfl rfl (pv_ixa (ixa_sl ti39 ti61 rfl hz hx1)) ?_
      refine wp_val (.agg (rSpan a2)) rfl rfl (pv_load (ld_cp ti61 rfl)) ?_
      refine wp_val (.bool (!((a1.From == a2.From) && (a1.To == a2.To)))) rfl rfl (pv_bin (eqok61 rfl rfl) rfl neqs61) ?_
      refine wp_nil ?_
      refine wf_itebn rfl (fun hc1 => ?_) (fun hc1 => ?_)
      · refine wr_skip ?_
        refine wr_inBlock ?_
        refine wr_region ?_
        refine wo_val (.int .i64 (j : Int)) rfl pv_move ?_
        refine wo_val (.int .i64 (IntKind.wrap .i64 ((j : Int) + 1))) rfl (pv_bin rfl rfl rfl) ?_
        refine wo_val (.int .i64 (IntKind.wrap .i64 ((j : Int) + 1))) rfl pv_assign ?_
        refine wo_nil ?_
        refine wr_is [(0, (.sl 2 (List.map rSpan a))), (1, (.sl 2 (List.map rSpan b))), (5, (.int .i64 ((j + 1 : Nat) : Int)))] (.cons rfl (.cons rfl (.cons (inc_ok (lt_of_get ha1) hlim) .nil))) ?_
        refine wb_each ?_
        refine hW () _ _ ?_
        exact ⟨rfl, rfl⟩
      · refine wr_seq ?_
        refine wr_region ?_
        refine wo_val (.bool false) rfl pv_assign ?_
        refine wo_nil ?_
        refine wx_each ?_
        refine w_altr ?_
        exact wr_ret (a := false) (vs := [(.bool false)]) Try.func54 hI rfl (.same _)
    · rintro _ fr h ⟨rfl, rfl⟩
      refine wr_mod (alt_inl _ _ _) ?_
      refine wr_seq ?_
      refine wr_seq ?_
      refine wr_region ?_
      refine wo_val (.int .i64 (a.length : Int)) rfl pv_move ?_
      refine wo_val (.sl 2 (List.map rSpan a)) rfl pv_move ?_
      refine wo_val (.int .i64 (a.length : Int)) rfl (pv_len (len_sl ti39)) ?_
      refine wo_val (.bool (decide ((a.length : Int) < (a.length : Int)))) rfl (pv_bin rfl rfl rfl) ?_
      refine wo_nil ?_
      refine wr_condF rfl (Int.lt_irrefl _) ?_
      refine wr_exit rfl ?_
      refine wr_seq ?_
      refine wr_region ?_
      refine wo_val (.bool true) rfl pv_assign ?_
      refine wo_nil ?_
      exact wr_ret (a := true) (vs := [(.bool true)]) Try.func54 hI rfl (.same _)

theorem cp_ref08_SameNames (a : (List Str)) (b : (List Str)) : CP Try.prog 55 [(.sl 1 (List.map rS a)), (.sl 1 (List.map rS b))] (ref08_SameNames a b) (fun (x : Bool) => (AV.bool x)) := by
  refine cp_intro (n := 26) 0 Try.func55 rfl (by decide) rfl rfl fun h0 ids hI => ?_
  refine wr_in (wr_mod (ref08_SameNames.eq_1 _ _) ?_)
  refine wr_seq ?_
  refine wr_region ?_
  refine wo_val (.bool false) rfl pv_assign ?_
  refine wo_nil ?_
  refine wr_seq ?_
  refine wr_seq ?_
  refine wr_region ?_
  refine wo_val (.sl 1 (List.map rS a)) rfl pv_move ?_
  refine wo_val (.int .i64 (a.length : Int)) rfl (pv_len (len_sl ti38)) ?_
  refine wo_val (.sl 1 (List.map rS b)) rfl pv_move ?_
  refine wo_val (.int .i64 (b.length : Int)) rfl (pv_len (len_sl ti38)) ?_
  refine wo_val (.bool ((a.length : Int) != (b.length : Int))) rfl (pv_bin rfl rfl rfl) ?_
  refine wo_nil ?_
  refine wf_iteb rfl (fun hc => ?_) (fun hc => ?_)
  · refine wr_seq ?_
    refine wr_region ?_
    refine wo_val (.bool false) rfl pv_assign ?_
    refine wo_nil ?_
    exact wr_ret (a := false) (vs := [(.bool false)]) Try.func55 hI rfl (.same _)
  · refine wr_skip ?_
    refine wr_seq ?_
    refine wr_seq ?_
    refine wr_region ?_
    refine wo_val (.int .i64 0) rfl pv_assign ?_
    refine wo_nil ?_
    refine wr_block ?_
    refine wr_is [(0, (.sl 1 (List.map rS a))), (1, (.sl 1 (List.map rS b))), (5, (.int .i64 0))] (.cons rfl (.cons rfl (.cons rfl .nil))) ?_
    refine wf_each' (P := Try.prog) a (fun j a1 => fun _ => ref08_SameNames_b1 b j a1) ((alt (fun _ => .ok true) (fun r => .ok r)) : (Unit ⊕ Bool) → R Bool)
      (fun j => fun _ => fun (fr : Nat → AV) (h : AHeap) => fr = frA [(0, (.sl 1 (List.map rS a))), (1, (.sl 1 (List.map rS b))), (5, (.int .i64 (j : Int)))] ∧ h = hp h0 ids []) () ?_ ?_ ?_
    · exact ⟨rfl, rfl⟩
    · rintro j a1 ha1 W hW _ fr h ⟨rfl, rfl⟩
      refine wr_mod (m' := ref08_SameNames_b1 b j a1) rfl (wr_mod (ref08_SameNames_b1.eq_1 _ _ _) ?_)
      refine wr_seq ?_
      refine wr_seq ?_
      refine wr_region ?_
      refine wo_val (.int .i64 (j : Int)) rfl pv_move ?_
      refine wo_val (.sl 1 (List.map rS a)) rfl pv_move ?_
      refine wo_val (.int .i64 (a.length : Int)) rfl (pv_len (len_sl ti38)) ?_
      refine wo_val (.bool (decide ((j : Int) < (a.length : Int)))) rfl (pv_bin rfl rfl rfl) ?_
      refine wo_nil ?_
      refine wr_lim (t := 0) (L := a) rfl fun hlim => ?_
      refine wr_condT rfl (Int.ofNat_lt.2 (lt_of_get ha1)) ?_
      refine wr_skip ?_
      refine wr_seq ?_
      refine wr_block ?_
      refine wr_seq ?_
      refine wr_draw hmix [[], [], [0, 1], [0, 1, 2], [], [], [4, 5], [4, 5, 6], [0, 1, 2, 3, 4, 5, 6, 7]] [(false, 0), (false, 1), (false, 2), (false, 3), (false, 4), (false, 5), (false, 6), (false, 7), (false, 8)] (by kernel_rfl) ?_
      refine wp_val (.sl 1 (List.map rS a)) rfl rfl pv_move ?_
      refine wp_val (.int .i64 (j : Int)) rfl rfl pv_move ?_
      refine wp_val (.cp [(.str a1)] 0) rfl rfl (pv_ixa (ixa_nat ti38 ti9 rfl ha1)) ?_
      refine wp_val (.str a1) rfl rfl (pv_load (ld_cp ti9 rfl)) ?_
      refine wp_val (.sl 1 (List.map rS b)) rfl rfl pv_move ?_
      refine wp_val (.int .i64 (j : Int)) rfl rfl pv_move ?_
      refine op_idx fun a2 hz hx1 => ?_
      refine wp_val (.cp [(.str a2)] 0) rfl rfl (pv_ixa (ixa_sl ti38 ti9 rfl hz hx1)) ?_
      refine wp_val (.str a2) rfl rfl (pv_load (ld_cp ti9 rfl)) ?_
      refine wp_val (.bool (!(a1 == a2))) rfl rfl (pv_bin rfl rfl rfl) ?_
      refine wp_nil ?_
      refine wf_itebn rfl (fun hc1 => ?_) (fun hc1 => ?_)
      · refine wr_skip ?_
        refine wr_inBlock ?_
        refine wr_region ?_
        refine wo_val (.int .i64 (j : Int)) rfl pv_move ?_
        refine wo_val (.int .i64 (IntKind.wrap .i64 ((j : Int) + 1))) rfl (pv_bin rfl rfl rfl) ?_
        refine wo_val (.int .i64 (IntKind.wrap .i64 ((j : Int) + 1))) rfl pv_assign ?_
        refine wo_nil ?_
        refine wr_is [(0, (.sl 1 (List.map rS a))), (1, (.sl 1 (List.map rS b))), (5, (.int .i64 ((j + 1 : Nat) : Int)))] (.cons rfl (.cons rfl (.cons (inc_ok (lt_of_get ha1) hlim) .nil))) ?_
        refine wb_each ?_
        refine hW () _ _ ?_
        exact ⟨rfl, rfl⟩
      · refine wr_seq ?_
        refine wr_region ?_
        refine wo_val (.bool false) rfl pv_assign ?_
        refine wo_nil ?_
        refine wx_each ?_
        refine w_altr ?_
        exact wr_ret (a := false) (vs := [(.bool false)]) Try.func55 hI rfl (.same _)
    · rintro _ fr h ⟨rfl, rfl⟩
      refine wr_mod (alt_inl _ _ _) ?_
      refine wr_seq ?_
      refine wr_seq ?_
      refine wr_region ?_
      refine wo_val (.int .i64 (a.length : Int)) rfl pv_move ?_
      refine wo_val (.sl 1 (List.map rS a)) rfl pv_move ?_
      refine wo_val (.int .i64 (a.length : Int)) rfl (pv_len (len_sl ti38)) ?_
      refine wo_val (.bool (decide ((a.length : Int) < (a.length : Int)))) rfl (pv_bin rfl rfl rfl) ?_
      refine wo_nil ?_
      refine wr_condF rfl (Int.lt_irrefl _) ?_
      refine wr_exit rfl ?_
      refine wr_seq ?_
      refine wr_region ?_
      refine wo_val (.bool true) rfl pv_assign ?_
      refine wo_nil ?_
      exact wr_ret (a := true) (vs := [(.bool true)]) Try.func55 hI rfl (.same _)
end Go.Am

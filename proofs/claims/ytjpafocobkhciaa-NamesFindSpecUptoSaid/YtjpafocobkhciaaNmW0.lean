/- The models hold of the program. Written by dc.py. -/
import Derived.Test.YtjpafocobkhciaaNmT
import Derived.Test.YtjpafocobkhciaaNmM
namespace Go.Am
open Go Go.Proofs
set_option maxRecDepth 100000
set_option linter.unusedSimpArgs false
set_option linter.unusedVariables false
theorem cp_names_volume (v : Volume) : CP Try.prog 25 [(.agg (rVolume v))] (names_volume v) (fun (x : Str) => (AV.str x)) := by
  refine cp_intro (n := 5) 1 Try.func25 rfl (by decide) rfl rfl fun h0 ids hI => ?_
  refine wr_in (wr_mod (names_volume.eq_1 _) ?_)
  refine wr_seq ?_
  refine wr_region ?_
  refine wo_box (v := (.agg (rVolume v))) (j := 0) hI rfl rfl rfl rfl rfl rfl rfl fun g => ?_
  refine wo_val (.str []) rfl pv_assign ?_
  refine wo_nil ?_
  refine wr_hp [(some (.rows g 2 [(rVolume v)]))] rfl ?_
  refine wr_seq ?_
  refine wr_region ?_
  refine wo_val (.ptr (ix ids 0) g 0 0) rfl (pv_fa (fa_ptr (c := 0) (off := 0) (i := 0) ti41 rfl ti9 rfl)) ?_
  refine wo_val (.str v.Name) rfl (pv_load (ld_ptr hI rfl rfl rfl ti9 rfl)) ?_
  refine wo_val (.str v.Name) rfl pv_assign ?_
  refine wo_nil ?_
  exact wr_ret (a := v.Name) (vs := [(.str v.Name)]) Try.func25 hI rfl (.same _)

theorem cp_names_must (ok : Bool) (e : Int) : CP Try.prog 61 [(.bool ok), (.int .i64 e)] (names_must ok e) (fun (_ : Unit) => AV.tup []) := by
  refine cp_intro (n := 8) 0 Try.func61 rfl (by decide) rfl rfl fun h0 ids hI => ?_
  refine wr_in (wr_mod (names_must.eq_1 _ _) ?_)
  refine wr_seq ?_
  refine wr_region ?_
  refine wo_val (.bool ok) rfl pv_move ?_
  refine wo_val (.bool (!ok)) rfl (pv_un rfl) ?_
  refine wo_nil ?_
  refine wf_itebn rfl (fun hc => ?_) (fun hc => ?_)
  · refine wr_skip ?_
    exact wr_end (a := ()) (vs := []) Try.func61 hI rfl (.tupL .nil)
  · refine wr_region ?_
    refine wo_val (.int .i64 e) rfl pv_move ?_
    refine wo_val (.iface 34 (.int .i64 e)) rfl (pv_iface ti34 (by decide)) ?_
    exact wo_panic (v := ⟨34, .int .i64 e⟩) rfl rfl (wu_pan Try.func61 hI)

theorem cpm_names_index_Volume_volume (l : (List Volume)) : CPM Try.prog 24 [(.sl 2 (List.map rVolume l)), (.func (.func 25) [] [])] (names_index_Volume_volume l) (fun x : Str => (AV.str x)) (fun x : Int => (AV.int .i64 x)) := by
  refine cpm_intro (n := 36) 1 Try.func24 rfl (by decide) rfl rfl fun h0 ids hI => ?_
  refine wr_in (wr_mod (names_index_Volume_volume.eq_1 _) ?_)
  refine wr_seq ?_
  refine wr_region ?_
  refine wo_val .mnil rfl pv_assign ?_
  refine wo_nil ?_
  refine wr_seq ?_
  refine wr_region ?_
  refine wo_makeMap (j := 0) hI rfl rfl rfl rfl fun g => ?_
  refine wo_val (.map (ix ids 0) g) rfl pv_assign ?_
  refine wo_nil ?_
  refine wr_hp [(some (.mp g (mE (fun x : Str => (AV.str x)) (fun x : Int => (AV.int .i64 x)) []))), none] rfl ?_
  refine wr_seq ?_
  refine wr_seq ?_
  refine wr_region ?_
  refine wo_val (.sl 2 (List.map rVolume l)) rfl pv_move ?_
  refine wo_val (.int .i64 (l.length : Int)) rfl (pv_len (len_sl ti22)) ?_
  refine wo_val (.int .i64 0) rfl pv_move ?_
  refine wo_nil ?_
  refine wr_block ?_
  refine wr_is [(1, (.func (.func 25) [] [])), (5, (.map (ix ids 0) g)), (11, (.sl 2 (List.map rVolume l))), (12, (.int .i64 (l.length : Int))), (13, (.int .i64 0))] (.cons rfl (.cons rfl (.cons rfl (.cons rfl (.cons rfl .nil))))) ?_
  refine wf_eachS' l (fun j a => fun m => names_index_Volume_volume_b1 j a m) (((fun m => .ok m)) : _ → R (List (Str × Int)))
    (fun j => fun m => fun (fr : Nat → AV) (h : AHeap) => fr = frA [(1, (.func (.func 25) [] [])), (5, (.map (ix ids 0) g)), (11, (.sl 2 (List.map rVolume l))), (12, (.int .i64 (l.length : Int))), (13, (.int .i64 (j : Int)))] ∧ h = hp h0 ids [(some (.mp g (mE (fun x : Str => (AV.str x)) (fun x : Int => (AV.int .i64 x)) m))), none]) [] ?_ ?_ ?_
  · exact ⟨rfl, rfl⟩
  · rintro j a ha W hW m fr h ⟨rfl, rfl⟩
    refine wr_mod (m' := names_index_Volume_volume_b1 j a m) rfl (wr_mod (names_index_Volume_volume_b1.eq_1 _ _ _) ?_)
    refine wr_seq ?_
    refine wr_region ?_
    refine wo_val (.bool (decide ((j : Int) < (l.length : Int)))) rfl (pv_bin rfl rfl rfl) ?_
    refine wo_nil ?_
    refine wr_seq ?_
    refine wr_lim (t := 11) (L := l) rfl fun hlim => ?_
    refine wr_condT rfl (Int.ofNat_lt.2 (lt_of_get ha)) ?_
    refine wr_skip ?_
    refine wr_seq ?_
    refine wr_block ?_
    refine wr_seq ?_
    refine wr_region ?_
    refine wo_val (.int .i64 (j : Int)) rfl pv_move ?_
    refine wo_val (.cp (rVolume a) 0) rfl (pv_ixa (ixa_nat ti22 ti41 rfl ha)) ?_
    refine wo_val (.agg (rVolume a)) rfl (pv_load (ld_cp ti41 rfl)) ?_
    refine wo_alloc (j := 1) hI rfl rfl rfl rfl ti41 rfl fun g1 => ?_
    refine wo_val (.int .i64 (j : Int)) rfl pv_assign ?_
    refine wo_store (st_ptr hI rfl rfl rfl rfl ti41 rfl rfl rfl rfl rfl) ?_
    refine wo_nil ?_
    refine wr_hp [(some (.mp g (mE (fun x : Str => (AV.str x)) (fun x : Int => (AV.int .i64 x)) m))), (some (.rows g1 2 [(rVolume a)]))] rfl ?_
    refine wr_seq ?_
    refine wr_region ?_
    refine wo_val (.map (ix ids 0) g) rfl pv_move ?_
    refine wo_val (.func (.func 25) [] []) rfl pv_move ?_
    refine wo_val (.agg (rVolume a)) rfl (pv_load (ld_ptr hI rfl rfl rfl ti41 rfl)) ?_
    refine of_call [(.agg (rVolume a))] rfl rfl rfl rfl ((cp_names_volume a) _) (fun v _ => wu_panM Try.func24 hI) fun r _ => ?_
    refine wo_val (.tup [(.int .i64 (Option.getD (mget m r) 0)), (.bool (Option.isSome (mget m r)))]) rfl (pv_look (look_map (eK := (fun x : Str => (AV.str x))) (eV := (fun x : Int => (AV.int .i64 x))) (zv := 0) (mapOf_at (hI.at rfl rfl)) ti70 ti9 ti3 keyE_str rfl).2) ?_
    refine wo_val (.tup [(.int .i64 (Option.getD (mget m r) 0)), (.bool (Option.isSome (mget m r)))]) rfl pv_move ?_
    refine wo_val (.int .i64 (Option.getD (mget m r) 0)) rfl (pv_ext rfl) ?_
    refine wo_val (.bool (Option.isSome (mget m r))) rfl (pv_ext rfl) ?_
    refine wo_val (.int .i64 (Option.getD (mget m r) 0)) rfl pv_assign ?_
    refine wo_val (.bool (Option.isSome (mget m r))) rfl pv_assign ?_
    refine wo_nil ?_
    refine wr_seq ?_
    refine wr_region ?_
    refine wo_val (.bool (Option.isSome (mget m r))) rfl pv_move ?_
    refine wo_val (.bool (!(Option.isSome (mget m r)))) rfl (pv_un rfl) ?_
    refine of_call [(.bool (!(Option.isSome (mget m r)))), (.int .i64 91)] rfl rfl rfl rfl ((cp_names_must (!(Option.isSome (mget m r))) 91) _) (fun v _ => wu_panM Try.func24 hI) fun _ _ => ?_
    refine wo_nil ?_
    refine wr_region ?_
    refine wo_val (.map (ix ids 0) g) rfl pv_move ?_
    refine wo_val (.func (.func 25) [] []) rfl pv_move ?_
    refine wo_val (.agg (rVolume a)) rfl (pv_load (ld_ptr hI rfl rfl rfl ti41 rfl)) ?_
    refine of_call [(.agg (rVolume a))] rfl rfl rfl rfl ((cp_names_volume a) _) (fun v _ => wu_panM Try.func24 hI) fun r2 _ => ?_
    refine wo_val (.int .i64 (j : Int)) rfl pv_move ?_
    refine wo_mapUpdate (j := 0) (eK := (fun x : Str => (AV.str x))) (eV := (fun x : Int => (AV.int .i64 x))) (M := m) (ky := r2) (w := (j : Int)) hI rfl rfl rfl rfl rfl rfl ti70 ti9 keyE_str ?_
    refine wo_nil ?_
    refine wr_hp [(some (.mp g (mE (fun x : Str => (AV.str x)) (fun x : Int => (AV.int .i64 x)) (mput m r2 (j : Int))))), (some (.rows g1 2 [(rVolume a)]))] rfl ?_
    refine wr_inBlock ?_
    refine wr_region ?_
    refine wo_val (.int .i64 (IntKind.wrap .i64 ((j : Int) + 1))) rfl (pv_bin rfl rfl rfl) ?_
    refine wo_val (.int .i64 (IntKind.wrap .i64 ((j : Int) + 1))) rfl pv_move ?_
    refine wo_nil ?_
    refine wr_drop [(some (.mp g (mE (fun x : Str => (AV.str x)) (fun x : Int => (AV.int .i64 x)) (mput m r2 (j : Int))))), none] hI rfl (.keep (.drop .nil)) ?_
    refine wr_is [(1, (.func (.func 25) [] [])), (5, (.map (ix ids 0) g)), (11, (.sl 2 (List.map rVolume l))), (12, (.int .i64 (l.length : Int))), (13, (.int .i64 ((j + 1 : Nat) : Int)))] (.cons rfl (.cons rfl (.cons rfl (.cons rfl (.cons (inc_ok (lt_of_get ha) hlim) .nil))))) ?_
    refine wb_S ?_
    refine hW (mput m r2 (j : Int)) _ _ ?_
    exact ⟨rfl, rfl⟩
  · rintro m fr h ⟨rfl, rfl⟩
    refine wr_seq ?_
    refine wr_region ?_
    refine wo_val (.bool (decide ((l.length : Int) < (l.length : Int)))) rfl (pv_bin rfl rfl rfl) ?_
    refine wo_nil ?_
    refine wr_seq ?_
    refine wr_condF rfl (Int.lt_irrefl _) ?_
    refine wr_exit rfl ?_
    refine wr_seq ?_
    refine wr_region ?_
    refine wo_val (.map (ix ids 0) g) rfl pv_move ?_
    refine wo_val (.map (ix ids 0) g) rfl pv_assign ?_
    refine wo_nil ?_
    exact wr_retM (a := m) (g := g) Try.func24 hI rfl rfl rfl

theorem cp_names_Resolve_c2 (s : Sector) : CP Try.prog 27 [(.agg (rSector s))] (names_Resolve_c2 s) (fun (x : Str) => (AV.str x)) := by
  refine cp_intro (n := 5) 1 Try.func27 rfl (by decide) rfl rfl fun h0 ids hI => ?_
  refine wr_in (wr_mod (names_Resolve_c2.eq_1 _) ?_)
  refine wr_seq ?_
  refine wr_region ?_
  refine wo_box (v := (.agg (rSector s))) (j := 0) hI rfl rfl rfl rfl rfl rfl rfl fun g => ?_
  refine wo_val (.str []) rfl pv_assign ?_
  refine wo_nil ?_
  refine wr_hp [(some (.rows g 5 [(rSector s)]))] rfl ?_
  refine wr_seq ?_
  refine wr_region ?_
  refine wo_val (.ptr (ix ids 0) g 0 0) rfl (pv_fa (fa_ptr (c := 0) (off := 0) (i := 0) ti53 rfl ti9 rfl)) ?_
  refine wo_val (.str s.Name) rfl (pv_load (ld_ptr hI rfl rfl rfl ti9 rfl)) ?_
  refine wo_val (.str s.Name) rfl pv_assign ?_
  refine wo_nil ?_
  exact wr_ret (a := s.Name) (vs := [(.str s.Name)]) Try.func27 hI rfl (.same _)

theorem cpm_names_index_Sector_c2 (l : (List Sector)) : CPM Try.prog 26 [(.sl 5 (List.map rSector l)), (.func (.func 27) [] [])] (names_index_Sector_c2 l) (fun x : Str => (AV.str x)) (fun x : Int => (AV.int .i64 x)) := by
  refine cpm_intro (n := 36) 1 Try.func26 rfl (by decide) rfl rfl fun h0 ids hI => ?_
  refine wr_in (wr_mod (names_index_Sector_c2.eq_1 _) ?_)
  refine wr_seq ?_
  refine wr_region ?_
  refine wo_val .mnil rfl pv_assign ?_
  refine wo_nil ?_
  refine wr_seq ?_
  refine wr_region ?_
  refine wo_makeMap (j := 0) hI rfl rfl rfl rfl fun g => ?_
  refine wo_val (.map (ix ids 0) g) rfl pv_assign ?_
  refine wo_nil ?_
  refine wr_hp [(some (.mp g (mE (fun x : Str => (AV.str x)) (fun x : Int => (AV.int .i64 x)) []))), none] rfl ?_
  refine wr_seq ?_
  refine wr_seq ?_
  refine wr_region ?_
  refine wo_val (.sl 5 (List.map rSector l)) rfl pv_move ?_
  refine wo_val (.int .i64 (l.length : Int)) rfl (pv_len (len_sl ti23)) ?_
  refine wo_val (.int .i64 0) rfl pv_move ?_
  refine wo_nil ?_
  refine wr_block ?_
  refine wr_is [(1, (.func (.func 27) [] [])), (5, (.map (ix ids 0) g)), (11, (.sl 5 (List.map rSector l))), (12, (.int .i64 (l.length : Int))), (13, (.int .i64 0))] (.cons rfl (.cons rfl (.cons rfl (.cons rfl (.cons rfl .nil))))) ?_
  refine wf_eachS' l (fun j a => fun m => names_index_Sector_c2_b1 j a m) (((fun m => .ok m)) : _ → R (List (Str × Int)))
    (fun j => fun m => fun (fr : Nat → AV) (h : AHeap) => fr = frA [(1, (.func (.func 27) [] [])), (5, (.map (ix ids 0) g)), (11, (.sl 5 (List.map rSector l))), (12, (.int .i64 (l.length : Int))), (13, (.int .i64 (j : Int)))] ∧ h = hp h0 ids [(some (.mp g (mE (fun x : Str => (AV.str x)) (fun x : Int => (AV.int .i64 x)) m))), none]) [] ?_ ?_ ?_
  · exact ⟨rfl, rfl⟩
  · rintro j a ha W hW m fr h ⟨rfl, rfl⟩
    refine wr_mod (m' := names_index_Sector_c2_b1 j a m) rfl (wr_mod (names_index_Sector_c2_b1.eq_1 _ _ _) ?_)
    refine wr_seq ?_
    refine wr_region ?_
    refine wo_val (.bool (decide ((j : Int) < (l.length : Int)))) rfl (pv_bin rfl rfl rfl) ?_
    refine wo_nil ?_
    refine wr_seq ?_
    refine wr_lim (t := 11) (L := l) rfl fun hlim => ?_
    refine wr_condT rfl (Int.ofNat_lt.2 (lt_of_get ha)) ?_
    refine wr_skip ?_
    refine wr_seq ?_
    refine wr_block ?_
    refine wr_seq ?_
    refine wr_region ?_
    refine wo_val (.int .i64 (j : Int)) rfl pv_move ?_
    refine wo_val (.cp (rSector a) 0) rfl (pv_ixa (ixa_nat ti23 ti53 rfl ha)) ?_
    refine wo_val (.agg (rSector a)) rfl (pv_load (ld_cp ti53 rfl)) ?_
    refine wo_alloc (j := 1) hI rfl rfl rfl rfl ti53 rfl fun g1 => ?_
    refine wo_val (.int .i64 (j : Int)) rfl pv_assign ?_
    refine wo_store (st_ptr hI rfl rfl rfl rfl ti53 rfl rfl rfl rfl rfl) ?_
    refine wo_nil ?_
    refine wr_hp [(some (.mp g (mE (fun x : Str => (AV.str x)) (fun x : Int => (AV.int .i64 x)) m))), (some (.rows g1 5 [(rSector a)]))] rfl ?_
    refine wr_seq ?_
    refine wr_region ?_
    refine wo_val (.map (ix ids 0) g) rfl pv_move ?_
    refine wo_val (.func (.func 27) [] []) rfl pv_move ?_
    refine wo_val (.agg (rSector a)) rfl (pv_load (ld_ptr hI rfl rfl rfl ti53 rfl)) ?_
    refine of_call [(.agg (rSector a))] rfl rfl rfl rfl ((cp_names_Resolve_c2 a) _) (fun v _ => wu_panM Try.func26 hI) fun r _ => ?_
    refine wo_val (.tup [(.int .i64 (Option.getD (mget m r) 0)), (.bool (Option.isSome (mget m r)))]) rfl (pv_look (look_map (eK := (fun x : Str => (AV.str x))) (eV := (fun x : Int => (AV.int .i64 x))) (zv := 0) (mapOf_at (hI.at rfl rfl)) ti70 ti9 ti3 keyE_str rfl).2) ?_
    refine wo_val (.tup [(.int .i64 (Option.getD (mget m r) 0)), (.bool (Option.isSome (mget m r)))]) rfl pv_move ?_
    refine wo_val (.int .i64 (Option.getD (mget m r) 0)) rfl (pv_ext rfl) ?_
    refine wo_val (.bool (Option.isSome (mget m r))) rfl (pv_ext rfl) ?_
    refine wo_val (.int .i64 (Option.getD (mget m r) 0)) rfl pv_assign ?_
    refine wo_val (.bool (Option.isSome (mget m r))) rfl pv_assign ?_
    refine wo_nil ?_
    refine wr_seq ?_
    refine wr_region ?_
    refine wo_val (.bool (Option.isSome (mget m r))) rfl pv_move ?_
    refine wo_val (.bool (!(Option.isSome (mget m r)))) rfl (pv_un rfl) ?_
    refine of_call [(.bool (!(Option.isSome (mget m r)))), (.int .i64 91)] rfl rfl rfl rfl ((cp_names_must (!(Option.isSome (mget m r))) 91) _) (fun v _ => wu_panM Try.func26 hI) fun _ _ => ?_
    refine wo_nil ?_
    refine wr_region ?_
    refine wo_val (.map (ix ids 0) g) rfl pv_move ?_
    refine wo_val (.func (.func 27) [] []) rfl pv_move ?_
    refine wo_val (.agg (rSector a)) rfl (pv_load (ld_ptr hI rfl rfl rfl ti53 rfl)) ?_
    refine of_call [(.agg (rSector a))] rfl rfl rfl rfl ((cp_names_Resolve_c2 a) _) (fun v _ => wu_panM Try.func26 hI) fun r2 _ => ?_
    refine wo_val (.int .i64 (j : Int)) rfl pv_move ?_
    refine wo_mapUpdate (j := 0) (eK := (fun x : Str => (AV.str x))) (eV := (fun x : Int => (AV.int .i64 x))) (M := m) (ky := r2) (w := (j : Int)) hI rfl rfl rfl rfl rfl rfl ti70 ti9 keyE_str ?_
    refine wo_nil ?_
    refine wr_hp [(some (.mp g (mE (fun x : Str => (AV.str x)) (fun x : Int => (AV.int .i64 x)) (mput m r2 (j : Int))))), (some (.rows g1 5 [(rSector a)]))] rfl ?_
    refine wr_inBlock ?_
    refine wr_region ?_
    refine wo_val (.int .i64 (IntKind.wrap .i64 ((j : Int) + 1))) rfl (pv_bin rfl rfl rfl) ?_
    refine wo_val (.int .i64 (IntKind.wrap .i64 ((j : Int) + 1))) rfl pv_move ?_
    refine wo_nil ?_
    refine wr_drop [(some (.mp g (mE (fun x : Str => (AV.str x)) (fun x : Int => (AV.int .i64 x)) (mput m r2 (j : Int))))), none] hI rfl (.keep (.drop .nil)) ?_
    refine wr_is [(1, (.func (.func 27) [] [])), (5, (.map (ix ids 0) g)), (11, (.sl 5 (List.map rSector l))), (12, (.int .i64 (l.length : Int))), (13, (.int .i64 ((j + 1 : Nat) : Int)))] (.cons rfl (.cons rfl (.cons rfl (.cons rfl (.cons (inc_ok (lt_of_get ha) hlim) .nil))))) ?_
    refine wb_S ?_
    refine hW (mput m r2 (j : Int)) _ _ ?_
    exact ⟨rfl, rfl⟩
  · rintro m fr h ⟨rfl, rfl⟩
    refine wr_seq ?_
    refine wr_region ?_
    refine wo_val (.bool (decide ((l.length : Int) < (l.length : Int)))) rfl (pv_bin rfl rfl rfl) ?_
    refine wo_nil ?_
    refine wr_seq ?_
    refine wr_condF rfl (Int.lt_irrefl _) ?_
    refine wr_exit rfl ?_
    refine wr_seq ?_
    refine wr_region ?_
    refine wo_val (.map (ix ids 0) g) rfl pv_move ?_
    refine wo_val (.map (ix ids 0) g) rfl pv_assign ?_
    refine wo_nil ?_
    exact wr_retM (a := m) (g := g) Try.func26 hI rfl rfl rfl

theorem cp_names_Resolve_c3 (c : Config) : CP Try.prog 29 [(.agg (rConfig c))] (names_Resolve_c3 c) (fun (x : Str) => (AV.str x)) := by
  refine cp_intro (n := 5) 1 Try.func29 rfl (by decide) rfl rfl fun h0 ids hI => ?_
  refine wr_in (wr_mod (names_Resolve_c3.eq_1 _) ?_)
  refine wr_seq ?_
  refine wr_region ?_
  refine wo_box (v := (.agg (rConfig c))) (j := 0) hI rfl rfl rfl rfl rfl rfl rfl fun g => ?_
  refine wo_val (.str []) rfl pv_assign ?_
  refine wo_nil ?_
  refine wr_hp [(some (.rows g 3 [(rConfig c)]))] rfl ?_
  refine wr_seq ?_
  refine wr_region ?_
  refine wo_val (.ptr (ix ids 0) g 0 0) rfl (pv_fa (fa_ptr (c := 0) (off := 0) (i := 0) ti55 rfl ti9 rfl)) ?_
  refine wo_val (.str c.Name) rfl (pv_load (ld_ptr hI rfl rfl rfl ti9 rfl)) ?_
  refine wo_val (.str c.Name) rfl pv_assign ?_
  refine wo_nil ?_
  exact wr_ret (a := c.Name) (vs := [(.str c.Name)]) Try.func29 hI rfl (.same _)

theorem cpm_names_index_Config_c3 (l : (List Config)) : CPM Try.prog 28 [(.sl 3 (List.map rConfig l)), (.func (.func 29) [] [])] (names_index_Config_c3 l) (fun x : Str => (AV.str x)) (fun x : Int => (AV.int .i64 x)) := by
  refine cpm_intro (n := 36) 1 Try.func28 rfl (by decide) rfl rfl fun h0 ids hI => ?_
  refine wr_in (wr_mod (names_index_Config_c3.eq_1 _) ?_)
  refine wr_seq ?_
  refine wr_region ?_
  refine wo_val .mnil rfl pv_assign ?_
  refine wo_nil ?_
  refine wr_seq ?_
  refine wr_region ?_
  refine wo_makeMap (j := 0) hI rfl rfl rfl rfl fun g => ?_
  refine wo_val (.map (ix ids 0) g) rfl pv_assign ?_
  refine wo_nil ?_
  refine wr_hp [(some (.mp g (mE (fun x : Str => (AV.str x)) (fun x : Int => (AV.int .i64 x)) []))), none] rfl ?_
  refine wr_seq ?_
  refine wr_seq ?_
  refine wr_region ?_
  refine wo_val (.sl 3 (List.map rConfig l)) rfl pv_move ?_
  refine wo_val (.int .i64 (l.length : Int)) rfl (pv_len (len_sl ti24)) ?_
  refine wo_val (.int .i64 0) rfl pv_move ?_
  refine wo_nil ?_
  refine wr_block ?_
  refine wr_is [(1, (.func (.func 29) [] [])), (5, (.map (ix ids 0) g)), (11, (.sl 3 (List.map rConfig l))), (12, (.int .i64 (l.length : Int))), (13, (.int .i64 0))] (.cons rfl (.cons rfl (.cons rfl (.cons rfl (.cons rfl .nil))))) ?_
  refine wf_eachS' l (fun j a => fun m => names_index_Config_c3_b1 j a m) (((fun m => .ok m)) : _ → R (List (Str × Int)))
    (fun j => fun m => fun (fr : Nat → AV) (h : AHeap) => fr = frA [(1, (.func (.func 29) [] [])), (5, (.map (ix ids 0) g)), (11, (.sl 3 (List.map rConfig l))), (12, (.int .i64 (l.length : Int))), (13, (.int .i64 (j : Int)))] ∧ h = hp h0 ids [(some (.mp g (mE (fun x : Str => (AV.str x)) (fun x : Int => (AV.int .i64 x)) m))), none]) [] ?_ ?_ ?_
  · exact ⟨rfl, rfl⟩
  · rintro j a ha W hW m fr h ⟨rfl, rfl⟩
    refine wr_mod (m' := names_index_Config_c3_b1 j a m) rfl (wr_mod (names_index_Config_c3_b1.eq_1 _ _ _) ?_)
    refine wr_seq ?_
    refine wr_region ?_
    refine wo_val (.bool (decide ((j : Int) < (l.length : Int)))) rfl (pv_bin rfl rfl rfl) ?_
    refine wo_nil ?_
    refine wr_seq ?_
    refine wr_lim (t := 11) (L := l) rfl fun hlim => ?_
    refine wr_condT rfl (Int.ofNat_lt.2 (lt_of_get ha)) ?_
    refine wr_skip ?_
    refine wr_seq ?_
    refine wr_block ?_
    refine wr_seq ?_
    refine wr_region ?_
    refine wo_val (.int .i64 (j : Int)) rfl pv_move ?_
    refine wo_val (.cp (rConfig a) 0) rfl (pv_ixa (ixa_nat ti24 ti55 rfl ha)) ?_
    refine wo_val (.agg (rConfig a)) rfl (pv_load (ld_cp ti55 rfl)) ?_
    refine wo_alloc (j := 1) hI rfl rfl rfl rfl ti55 rfl fun g1 => ?_
    refine wo_val (.int .i64 (j : Int)) rfl pv_assign ?_
    refine wo_store (st_ptr hI rfl rfl rfl rfl ti55 rfl rfl rfl rfl rfl) ?_
    refine wo_nil ?_
    refine wr_hp [(some (.mp g (mE (fun x : Str => (AV.str x)) (fun x : Int => (AV.int .i64 x)) m))), (some (.rows g1 3 [(rConfig a)]))] rfl ?_
    refine wr_seq ?_
    refine wr_region ?_
    refine wo_val (.map (ix ids 0) g) rfl pv_move ?_
    refine wo_val (.func (.func 29) [] []) rfl pv_move ?_
    refine wo_val (.agg (rConfig a)) rfl (pv_load (ld_ptr hI rfl rfl rfl ti55 rfl)) ?_
    refine of_call [(.agg (rConfig a))] rfl rfl rfl rfl ((cp_names_Resolve_c3 a) _) (fun v _ => wu_panM Try.func28 hI) fun r _ => ?_
    refine wo_val (.tup [(.int .i64 (Option.getD (mget m r) 0)), (.bool (Option.isSome (mget m r)))]) rfl (pv_look (look_map (eK := (fun x : Str => (AV.str x))) (eV := (fun x : Int => (AV.int .i64 x))) (zv := 0) (mapOf_at (hI.at rfl rfl)) ti70 ti9 ti3 keyE_str rfl).2) ?_
    refine wo_val (.tup [(.int .i64 (Option.getD (mget m r) 0)), (.bool (Option.isSome (mget m r)))]) rfl pv_move ?_
    refine wo_val (.int .i64 (Option.getD (mget m r) 0)) rfl (pv_ext rfl) ?_
    refine wo_val (.bool (Option.isSome (mget m r))) rfl (pv_ext rfl) ?_
    refine wo_val (.int .i64 (Option.getD (mget m r) 0)) rfl pv_assign ?_
    refine wo_val (.bool (Option.isSome (mget m r))) rfl pv_assign ?_
    refine wo_nil ?_
    refine wr_seq ?_
    refine wr_region ?_
    refine wo_val (.bool (Option.isSome (mget m r))) rfl pv_move ?_
    refine wo_val (.bool (!(Option.isSome (mget m r)))) rfl (pv_un rfl) ?_
    refine of_call [(.bool (!(Option.isSome (mget m r)))), (.int .i64 91)] rfl rfl rfl rfl ((cp_names_must (!(Option.isSome (mget m r))) 91) _) (fun v _ => wu_panM Try.func28 hI) fun _ _ => ?_
    refine wo_nil ?_
    refine wr_region ?_
    refine wo_val (.map (ix ids 0) g) rfl pv_move ?_
    refine wo_val (.func (.func 29) [] []) rfl pv_move ?_
    refine wo_val (.agg (rConfig a)) rfl (pv_load (ld_ptr hI rfl rfl rfl ti55 rfl)) ?_
    refine of_call [(.agg (rConfig a))] rfl rfl rfl rfl ((cp_names_Resolve_c3 a) _) (fun v _ => wu_panM Try.func28 hI) fun r2 _ => ?_
    refine wo_val (.int .i64 (j : Int)) rfl pv_move ?_
    refine wo_mapUpdate (j := 0) (eK := (fun x : Str => (AV.str x))) (eV := (fun x : Int => (AV.int .i64 x))) (M := m) (ky := r2) (w := (j : Int)) hI rfl rfl rfl rfl rfl rfl ti70 ti9 keyE_str ?_
    refine wo_nil ?_
    refine wr_hp [(some (.mp g (mE (fun x : Str => (AV.str x)) (fun x : Int => (AV.int .i64 x)) (mput m r2 (j : Int))))), (some (.rows g1 3 [(rConfig a)]))] rfl ?_
    refine wr_inBlock ?_
    refine wr_region ?_
    refine wo_val (.int .i64 (IntKind.wrap .i64 ((j : Int) + 1))) rfl (pv_bin rfl rfl rfl) ?_
    refine wo_val (.int .i64 (IntKind.wrap .i64 ((j : Int) + 1))) rfl pv_move ?_
    refine wo_nil ?_
    refine wr_drop [(some (.mp g (mE (fun x : Str => (AV.str x)) (fun x : Int => (AV.int .i64 x)) (mput m r2 (j : Int))))), none] hI rfl (.keep (.drop .nil)) ?_
    refine wr_is [(1, (.func (.func 29) [] [])), (5, (.map (ix ids 0) g)), (11, (.sl 3 (List.map rConfig l))), (12, (.int .i64 (l.length : Int))), (13, (.int .i64 ((j + 1 : Nat) : Int)))] (.cons rfl (.cons rfl (.cons rfl (.cons rfl (.cons (inc_ok (lt_of_get ha) hlim) .nil))))) ?_
    refine wb_S ?_
    refine hW (mput m r2 (j : Int)) _ _ ?_
    exact ⟨rfl, rfl⟩
  · rintro m fr h ⟨rfl, rfl⟩
    refine wr_seq ?_
    refine wr_region ?_
    refine wo_val (.bool (decide ((l.length : Int) < (l.length : Int)))) rfl (pv_bin rfl rfl rfl) ?_
    refine wo_nil ?_
    refine wr_seq ?_
    refine wr_condF rfl (Int.lt_irrefl _) ?_
    refine wr_exit rfl ?_
    refine wr_seq ?_
    refine wr_region ?_
    refine wo_val (.map (ix ids 0) g) rfl pv_move ?_
    refine wo_val (.map (ix ids 0) g) rfl pv_assign ?_
    refine wo_nil ?_
    exact wr_retM (a := m) (g := g) Try.func28 hI rfl rfl rfl

theorem cp_names_Resolve_c4 (s : Segment) : CP Try.prog 31 [(.agg (rSegment s))] (names_Resolve_c4 s) (fun (x : Str) => (AV.str x)) := by
  refine cp_intro (n := 5) 1 Try.func31 rfl (by decide) rfl rfl fun h0 ids hI => ?_
  refine wr_in (wr_mod (names_Resolve_c4.eq_1 _) ?_)
  refine wr_seq ?_
  refine wr_region ?_
  refine wo_box (v := (.agg (rSegment s))) (j := 0) hI rfl rfl rfl rfl rfl rfl rfl fun g => ?_
  refine wo_val (.str []) rfl pv_assign ?_
  refine wo_nil ?_
  refine wr_hp [(some (.rows g 5 [(rSegment s)]))] rfl ?_
  refine wr_seq ?_
  refine wr_region ?_
  refine wo_val (.ptr (ix ids 0) g 0 0) rfl (pv_fa (fa_ptr (c := 0) (off := 0) (i := 0) ti57 rfl ti9 rfl)) ?_
  refine wo_val (.str s.Name) rfl (pv_load (ld_ptr hI rfl rfl rfl ti9 rfl)) ?_
  refine wo_val (.str s.Name) rfl pv_assign ?_
  refine wo_nil ?_
  exact wr_ret (a := s.Name) (vs := [(.str s.Name)]) Try.func31 hI rfl (.same _)

theorem cpm_names_index_Segment_c4 (l : (List Segment)) : CPM Try.prog 30 [(.sl 5 (List.map rSegment l)), (.func (.func 31) [] [])] (names_index_Segment_c4 l) (fun x : Str => (AV.str x)) (fun x : Int => (AV.int .i64 x)) := by
  refine cpm_intro (n := 36) 1 Try.func30 rfl (by decide) rfl rfl fun h0 ids hI => ?_
  refine wr_in (wr_mod (names_index_Segment_c4.eq_1 _) ?_)
  refine wr_seq ?_
  refine wr_region ?_
  refine wo_val .mnil rfl pv_assign ?_
  refine wo_nil ?_
  refine wr_seq ?_
  refine wr_region ?_
  refine wo_makeMap (j := 0) hI rfl rfl rfl rfl fun g => ?_
  refine wo_val (.map (ix ids 0) g) rfl pv_assign ?_
  refine wo_nil ?_
  refine wr_hp [(some (.mp g (mE (fun x : Str => (AV.str x)) (fun x : Int => (AV.int .i64 x)) []))), none] rfl ?_
  refine wr_seq ?_
  refine wr_seq ?_
  refine wr_region ?_
  refine wo_val (.sl 5 (List.map rSegment l)) rfl pv_move ?_
  refine wo_val (.int .i64 (l.length : Int)) rfl (pv_len (len_sl ti25)) ?_
  refine wo_val (.int .i64 0) rfl pv_move ?_
  refine wo_nil ?_
  refine wr_block ?_
  refine wr_is [(1, (.func (.func 31) [] [])), (5, (.map (ix ids 0) g)), (11, (.sl 5 (List.map rSegment l))), (12, (.int .i64 (l.length : Int))), (13, (.int .i64 0))] (.cons rfl (.cons rfl (.cons rfl (.cons rfl (.cons rfl .nil))))) ?_
  refine wf_eachS' l (fun j a => fun m => names_index_Segment_c4_b1 j a m) (((fun m => .ok m)) : _ → R (List (Str × Int)))
    (fun j => fun m => fun (fr : Nat → AV) (h : AHeap) => fr = frA [(1, (.func (.func 31) [] [])), (5, (.map (ix ids 0) g)), (11, (.sl 5 (List.map rSegment l))), (12, (.int .i64 (l.length : Int))), (13, (.int .i64 (j : Int)))] ∧ h = hp h0 ids [(some (.mp g (mE (fun x : Str => (AV.str x)) (fun x : Int => (AV.int .i64 x)) m))), none]) [] ?_ ?_ ?_
  · exact ⟨rfl, rfl⟩
  · rintro j a ha W hW m fr h ⟨rfl, rfl⟩
    refine wr_mod (m' := names_index_Segment_c4_b1 j a m) rfl (wr_mod (names_index_Segment_c4_b1.eq_1 _ _ _) ?_)
    refine wr_seq ?_
    refine wr_region ?_
    refine wo_val (.bool (decide ((j : Int) < (l.length : Int)))) rfl (pv_bin rfl rfl rfl) ?_
    refine wo_nil ?_
    refine wr_seq ?_
    refine wr_lim (t := 11) (L := l) rfl fun hlim => ?_
    refine wr_condT rfl (Int.ofNat_lt.2 (lt_of_get ha)) ?_
    refine wr_skip ?_
    refine wr_seq ?_
    refine wr_block ?_
    refine wr_seq ?_
    refine wr_region ?_
    refine wo_val (.int .i64 (j : Int)) rfl pv_move ?_
    refine wo_val (.cp (rSegment a) 0) rfl (pv_ixa (ixa_nat ti25 ti57 rfl ha)) ?_
    refine wo_val (.agg (rSegment a)) rfl (pv_load (ld_cp ti57 rfl)) ?_
    refine wo_alloc (j := 1) hI rfl rfl rfl rfl ti57 rfl fun g1 => ?_
    refine wo_val (.int .i64 (j : Int)) rfl pv_assign ?_
    refine wo_store (st_ptr hI rfl rfl rfl rfl ti57 rfl rfl rfl rfl rfl) ?_
    refine wo_nil ?_
    refine wr_hp [(some (.mp g (mE (fun x : Str => (AV.str x)) (fun x : Int => (AV.int .i64 x)) m))), (some (.rows g1 5 [(rSegment a)]))] rfl ?_
    refine wr_seq ?_
    refine wr_region ?_
    refine wo_val (.map (ix ids 0) g) rfl pv_move ?_
    refine wo_val (.func (.func 31) [] []) rfl pv_move ?_
    refine wo_val (.agg (rSegment a)) rfl (pv_load (ld_ptr hI rfl rfl rfl ti57 rfl)) ?_
    refine of_call [(.agg (rSegment a))] rfl rfl rfl rfl ((cp_names_Resolve_c4 a) _) (fun v _ => wu_panM Try.func30 hI) fun r _ => ?_
    refine wo_val (.tup [(.int .i64 (Option.getD (mget m r) 0)), (.bool (Option.isSome (mget m r)))]) rfl (pv_look (look_map (eK := (fun x : Str => (AV.str x))) (eV := (fun x : Int => (AV.int .i64 x))) (zv := 0) (mapOf_at (hI.at rfl rfl)) ti70 ti9 ti3 keyE_str rfl).2) ?_
    refine wo_val (.tup [(.int .i64 (Option.getD (mget m r) 0)), (.bool (Option.isSome (mget m r)))]) rfl pv_move ?_
    refine wo_val (.int .i64 (Option.getD (mget m r) 0)) rfl (pv_ext rfl) ?_
    refine wo_val (.bool (Option.isSome (mget m r))) rfl (pv_ext rfl) ?_
    refine wo_val (.int .i64 (Option.getD (mget m r) 0)) rfl pv_assign ?_
    refine wo_val (.bool (Option.isSome (mget m r))) rfl pv_assign ?_
    refine wo_nil ?_
    refine wr_seq ?_
    refine wr_region ?_
    refine wo_val (.bool (Option.isSome (mget m r))) rfl pv_move ?_
    refine wo_val (.bool (!(Option.isSome (mget m r)))) rfl (pv_un rfl) ?_
    refine of_call [(.bool (!(Option.isSome (mget m r)))), (.int .i64 91)] rfl rfl rfl rfl ((cp_names_must (!(Option.isSome (mget m r))) 91) _) (fun v _ => wu_panM Try.func30 hI) fun _ _ => ?_
    refine wo_nil ?_
    refine wr_region ?_
    refine wo_val (.map (ix ids 0) g) rfl pv_move ?_
    refine wo_val (.func (.func 31) [] []) rfl pv_move ?_
    refine wo_val (.agg (rSegment a)) rfl (pv_load (ld_ptr hI rfl rfl rfl ti57 rfl)) ?_
    refine of_call [(.agg (rSegment a))] rfl rfl rfl rfl ((cp_names_Resolve_c4 a) _) (fun v _ => wu_panM Try.func30 hI) fun r2 _ => ?_
    refine wo_val (.int .i64 (j : Int)) rfl pv_move ?_
    refine wo_mapUpdate (j := 0) (eK := (fun x : Str => (AV.str x))) (eV := (fun x : Int => (AV.int .i64 x))) (M := m) (ky := r2) (w := (j : Int)) hI rfl rfl rfl rfl rfl rfl ti70 ti9 keyE_str ?_
    refine wo_nil ?_
    refine wr_hp [(some (.mp g (mE (fun x : Str => (AV.str x)) (fun x : Int => (AV.int .i64 x)) (mput m r2 (j : Int))))), (some (.rows g1 5 [(rSegment a)]))] rfl ?_
    refine wr_inBlock ?_
    refine wr_region ?_
    refine wo_val (.int .i64 (IntKind.wrap .i64 ((j : Int) + 1))) rfl (pv_bin rfl rfl rfl) ?_
    refine wo_val (.int .i64 (IntKind.wrap .i64 ((j : Int) + 1))) rfl pv_move ?_
    refine wo_nil ?_
    refine wr_drop [(some (.mp g (mE (fun x : Str => (AV.str x)) (fun x : Int => (AV.int .i64 x)) (mput m r2 (j : Int))))), none] hI rfl (.keep (.drop .nil)) ?_
    refine wr_is [(1, (.func (.func 31) [] [])), (5, (.map (ix ids 0) g)), (11, (.sl 5 (List.map rSegment l))), (12, (.int .i64 (l.length : Int))), (13, (.int .i64 ((j + 1 : Nat) : Int)))] (.cons rfl (.cons rfl (.cons rfl (.cons rfl (.cons (inc_ok (lt_of_get ha) hlim) .nil))))) ?_
    refine wb_S ?_
    refine hW (mput m r2 (j : Int)) _ _ ?_
    exact ⟨rfl, rfl⟩
  · rintro m fr h ⟨rfl, rfl⟩
    refine wr_seq ?_
    refine wr_region ?_
    refine wo_val (.bool (decide ((l.length : Int) < (l.length : Int)))) rfl (pv_bin rfl rfl rfl) ?_
    refine wo_nil ?_
    refine wr_seq ?_
    refine wr_condF rfl (Int.lt_irrefl _) ?_
    refine wr_exit rfl ?_
    refine wr_seq ?_
    refine wr_region ?_
    refine wo_val (.map (ix ids 0) g) rfl pv_move ?_
    refine wo_val (.map (ix ids 0) g) rfl pv_assign ?_
    refine wo_nil ?_
    exact wr_retM (a := m) (g := g) Try.func30 hI rfl rfl rfl

theorem cp_names_Resolve_c5 (r : Route) : CP Try.prog 33 [(.agg (rRoute r))] (names_Resolve_c5 r) (fun (x : Str) => (AV.str x)) := by
  refine cp_intro (n := 5) 1 Try.func33 rfl (by decide) rfl rfl fun h0 ids hI => ?_
  refine wr_in (wr_mod (names_Resolve_c5.eq_1 _) ?_)
  refine wr_seq ?_
  refine wr_region ?_
  refine wo_box (v := (.agg (rRoute r))) (j := 0) hI rfl rfl rfl rfl rfl rfl rfl fun g => ?_
  refine wo_val (.str []) rfl pv_assign ?_
  refine wo_nil ?_
  refine wr_hp [(some (.rows g 7 [(rRoute r)]))] rfl ?_
  refine wr_seq ?_
  refine wr_region ?_
  refine wo_val (.ptr (ix ids 0) g 0 0) rfl (pv_fa (fa_ptr (c := 0) (off := 0) (i := 0) ti59 rfl ti9 rfl)) ?_
  refine wo_val (.str r.Name) rfl (pv_load (ld_ptr hI rfl rfl rfl ti9 rfl)) ?_
  refine wo_val (.str r.Name) rfl pv_assign ?_
  refine wo_nil ?_
  exact wr_ret (a := r.Name) (vs := [(.str r.Name)]) Try.func33 hI rfl (.same _)

theorem cpm_names_index_Route_c5 (l : (List Route)) : CPM Try.prog 32 [(.sl 7 (List.map rRoute l)), (.func (.func 33) [] [])] (names_index_Route_c5 l) (fun x : Str => (AV.str x)) (fun x : Int => (AV.int .i64 x)) := by
  refine cpm_intro (n := 36) 1 Try.func32 rfl (by decide) rfl rfl fun h0 ids hI => ?_
  refine wr_in (wr_mod (names_index_Route_c5.eq_1 _) ?_)
  refine wr_seq ?_
  refine wr_region ?_
  refine wo_val .mnil rfl pv_assign ?_
  refine wo_nil ?_
  refine wr_seq ?_
  refine wr_region ?_
  refine wo_makeMap (j := 0) hI rfl rfl rfl rfl fun g => ?_
  refine wo_val (.map (ix ids 0) g) rfl pv_assign ?_
  refine wo_nil ?_
  refine wr_hp [(some (.mp g (mE (fun x : Str => (AV.str x)) (fun x : Int => (AV.int .i64 x)) []))), none] rfl ?_
  refine wr_seq ?_
  refine wr_seq ?_
  refine wr_region ?_
  refine wo_val (.sl 7 (List.map rRoute l)) rfl pv_move ?_
  refine wo_val (.int .i64 (l.length : Int)) rfl (pv_len (len_sl ti26)) ?_
  refine wo_val (.int .i64 0) rfl pv_move ?_
  refine wo_nil ?_
  refine wr_block ?_
  refine wr_is [(1, (.func (.func 33) [] [])), (5, (.map (ix ids 0) g)), (11, (.sl 7 (List.map rRoute l))), (12, (.int .i64 (l.length : Int))), (13, (.int .i64 0))] (.cons rfl (.cons rfl (.cons rfl (.cons rfl (.cons rfl .nil))))) ?_
  refine wf_eachS' l (fun j a => fun m => names_index_Route_c5_b1 j a m) (((fun m => .ok m)) : _ → R (List (Str × Int)))
    (fun j => fun m => fun (fr : Nat → AV) (h : AHeap) => fr = frA [(1, (.func (.func 33) [] [])), (5, (.map (ix ids 0) g)), (11, (.sl 7 (List.map rRoute l))), (12, (.int .i64 (l.length : Int))), (13, (.int .i64 (j : Int)))] ∧ h = hp h0 ids [(some (.mp g (mE (fun x : Str => (AV.str x)) (fun x : Int => (AV.int .i64 x)) m))), none]) [] ?_ ?_ ?_
  · exact ⟨rfl, rfl⟩
  · rintro j a ha W hW m fr h ⟨rfl, rfl⟩
    refine wr_mod (m' := names_index_Route_c5_b1 j a m) rfl (wr_mod (names_index_Route_c5_b1.eq_1 _ _ _) ?_)
    refine wr_seq ?_
    refine wr_region ?_
    refine wo_val (.bool (decide ((j : Int) < (l.length : Int)))) rfl (pv_bin rfl rfl rfl) ?_
    refine wo_nil ?_
    refine wr_seq ?_
    refine wr_lim (t := 11) (L := l) rfl fun hlim => ?_
    refine wr_condT rfl (Int.ofNat_lt.2 (lt_of_get ha)) ?_
    refine wr_skip ?_
    refine wr_seq ?_
    refine wr_block ?_
    refine wr_seq ?_
    refine wr_region ?_
    refine wo_val (.int .i64 (j : Int)) rfl pv_move ?_
    refine wo_val (.cp (rRoute a) 0) rfl (pv_ixa (ixa_nat ti26 ti59 rfl ha)) ?_
    refine wo_val (.agg (rRoute a)) rfl (pv_load (ld_cp ti59 rfl)) ?_
    refine wo_alloc (j := 1) hI rfl rfl rfl rfl ti59 rfl fun g1 => ?_
    refine wo_val (.int .i64 (j : Int)) rfl pv_assign ?_
    refine wo_store (st_ptr hI rfl rfl rfl rfl ti59 rfl rfl rfl rfl rfl) ?_
    refine wo_nil ?_
    refine wr_hp [(some (.mp g (mE (fun x : Str => (AV.str x)) (fun x : Int => (AV.int .i64 x)) m))), (some (.rows g1 7 [(rRoute a)]))] rfl ?_
    refine wr_seq ?_
    refine wr_region ?_
    refine wo_val (.map (ix ids 0) g) rfl pv_move ?_
    refine wo_val (.func (.func 33) [] []) rfl pv_move ?_
    refine wo_val (.agg (rRoute a)) rfl (pv_load (ld_ptr hI rfl rfl rfl ti59 rfl)) ?_
    refine of_call [(.agg (rRoute a))] rfl rfl rfl rfl ((cp_names_Resolve_c5 a) _) (fun v _ => wu_panM Try.func32 hI) fun r _ => ?_
    refine wo_val (.tup [(.int .i64 (Option.getD (mget m r) 0)), (.bool (Option.isSome (mget m r)))]) rfl (pv_look (look_map (eK := (fun x : Str => (AV.str x))) (eV := (fun x : Int => (AV.int .i64 x))) (zv := 0) (mapOf_at (hI.at rfl rfl)) ti70 ti9 ti3 keyE_str rfl).2) ?_
    refine wo_val (.tup [(.int .i64 (Option.getD (mget m r) 0)), (.bool (Option.isSome (mget m r)))]) rfl pv_move ?_
    refine wo_val (.int .i64 (Option.getD (mget m r) 0)) rfl (pv_ext rfl) ?_
    refine wo_val (.bool (Option.isSome (mget m r))) rfl (pv_ext rfl) ?_
    refine wo_val (.int .i64 (Option.getD (mget m r) 0)) rfl pv_assign ?_
    refine wo_val (.bool (Option.isSome (mget m r))) rfl pv_assign ?_
    refine wo_nil ?_
    refine wr_seq ?_
    refine wr_region ?_
    refine wo_val (.bool (Option.isSome (mget m r))) rfl pv_move ?_
    refine wo_val (.bool (!(Option.isSome (mget m r)))) rfl (pv_un rfl) ?_
    refine of_call [(.bool (!(Option.isSome (mget m r)))), (.int .i64 91)] rfl rfl rfl rfl ((cp_names_must (!(Option.isSome (mget m r))) 91) _) (fun v _ => wu_panM Try.func32 hI) fun _ _ => ?_
    refine wo_nil ?_
    refine wr_region ?_
    refine wo_val (.map (ix ids 0) g) rfl pv_move ?_
    refine wo_val (.func (.func 33) [] []) rfl pv_move ?_
    refine wo_val (.agg (rRoute a)) rfl (pv_load (ld_ptr hI rfl rfl rfl ti59 rfl)) ?_
    refine of_call [(.agg (rRoute a))] rfl rfl rfl rfl ((cp_names_Resolve_c5 a) _) (fun v _ => wu_panM Try.func32 hI) fun r2 _ => ?_
    refine wo_val (.int .i64 (j : Int)) rfl pv_move ?_
    refine wo_mapUpdate (j := 0) (eK := (fun x : Str => (AV.str x))) (eV := (fun x : Int => (AV.int .i64 x))) (M := m) (ky := r2) (w := (j : Int)) hI rfl rfl rfl rfl rfl rfl ti70 ti9 keyE_str ?_
    refine wo_nil ?_
    refine wr_hp [(some (.mp g (mE (fun x : Str => (AV.str x)) (fun x : Int => (AV.int .i64 x)) (mput m r2 (j : Int))))), (some (.rows g1 7 [(rRoute a)]))] rfl ?_
    refine wr_inBlock ?_
    refine wr_region ?_
    refine wo_val (.int .i64 (IntKind.wrap .i64 ((j : Int) + 1))) rfl (pv_bin rfl rfl rfl) ?_
    refine wo_val (.int .i64 (IntKind.wrap .i64 ((j : Int) + 1))) rfl pv_move ?_
    refine wo_nil ?_
    refine wr_drop [(some (.mp g (mE (fun x : Str => (AV.str x)) (fun x : Int => (AV.int .i64 x)) (mput m r2 (j : Int))))), none] hI rfl (.keep (.drop .nil)) ?_
    refine wr_is [(1, (.func (.func 33) [] [])), (5, (.map (ix ids 0) g)), (11, (.sl 7 (List.map rRoute l))), (12, (.int .i64 (l.length : Int))), (13, (.int .i64 ((j + 1 : Nat) : Int)))] (.cons rfl (.cons rfl (.cons rfl (.cons rfl (.cons (inc_ok (lt_of_get ha) hlim) .nil))))) ?_
    refine wb_S ?_
    refine hW (mput m r2 (j : Int)) _ _ ?_
    exact ⟨rfl, rfl⟩
  · rintro m fr h ⟨rfl, rfl⟩
    refine wr_seq ?_
    refine wr_region ?_
    refine wo_val (.bool (decide ((l.length : Int) < (l.length : Int)))) rfl (pv_bin rfl rfl rfl) ?_
    refine wo_nil ?_
    refine wr_seq ?_
    refine wr_condF rfl (Int.lt_irrefl _) ?_
    refine wr_exit rfl ?_
    refine wr_seq ?_
    refine wr_region ?_
    refine wo_val (.map (ix ids 0) g) rfl pv_move ?_
    refine wo_val (.map (ix ids 0) g) rfl pv_assign ?_
    refine wo_nil ?_
    exact wr_retM (a := m) (g := g) Try.func32 hI rfl rfl rfl

theorem cp_names_airport (p : Airport) : CP Try.prog 35 [(.agg (rAirport p))] (names_airport p) (fun (x : Str) => (AV.str x)) := by
  refine cp_intro (n := 5) 1 Try.func35 rfl (by decide) rfl rfl fun h0 ids hI => ?_
  refine wr_in (wr_mod (names_airport.eq_1 _) ?_)
  refine wr_seq ?_
  refine wr_region ?_
  refine wo_box (v := (.agg (rAirport p))) (j := 0) hI rfl rfl rfl rfl rfl rfl rfl fun g => ?_
  refine wo_val (.str []) rfl pv_assign ?_
  refine wo_nil ?_
  refine wr_hp [(some (.rows g 2 [(rAirport p)]))] rfl ?_
  refine wr_seq ?_
  refine wr_region ?_
  refine wo_val (.ptr (ix ids 0) g 0 0) rfl (pv_fa (fa_ptr (c := 0) (off := 0) (i := 0) ti46 rfl ti9 rfl)) ?_
  refine wo_val (.str p.Name) rfl (pv_load (ld_ptr hI rfl rfl rfl ti9 rfl)) ?_
  refine wo_val (.str p.Name) rfl pv_assign ?_
  refine wo_nil ?_
  exact wr_ret (a := p.Name) (vs := [(.str p.Name)]) Try.func35 hI rfl (.same _)
end Go.Am

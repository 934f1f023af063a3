/- The models hold of the program. Written by dc.py. -/
import Derived.Test.YtjmofjoifnhloaaOpT
import Derived.Test.YtjmofjoifnhloaaOpM
namespace Go.Am
open Go Go.Proofs
set_option maxRecDepth 100000
set_option linter.unusedSimpArgs false
set_option linter.unusedVariables false
theorem cp_law11_sample : CP Try.prog 24 [] (law11_sample) (fun (x : Airspace) => (AV.agg (rAirspace x))) := by
  refine cp_intro (n := 20) 1 Try.func24 rfl (by decide) rfl rfl fun h0 ids hI => ?_
  refine wr_in (wr_mod (law11_sample.eq_1) ?_)
  refine wr_seq ?_
  refine wr_region ?_
  refine wo_alloc (j := 0) hI rfl rfl rfl rfl ti31 rfl fun g => ?_
  refine wo_nil ?_
  refine wr_hp [(some (.rows g 8 [[.emp, .emp, .emp, .emp, .emp, .emp, .emp, .emp]]))] rfl ?_
  refine wr_seq ?_
  refine wr_region ?_
  refine wo_val (.agg [(.int .i64 150), (.int .i64 160)]) rfl (pv_build (bd_st ti55 pl55 rfl)) ?_
  refine wo_bsC (e := rSpan) (L := [({ From := 150, To := 160 } : Span)]) (st := 2) (rows := [[(.int .i64 150), (.int .i64 160)]]) rfl ti35 ti55 rfl rfl rfl rfl rfl (.cons (.cons (.same _) (.cons (.same _) .nil)) .nil) (fun x => ok_Span x) rfl rfl ?_
  refine wo_val (.agg [(.str []), (.sl 2 (List.map rSpan [({ From := 150, To := 160 } : Span)]))]) rfl (pv_build (bd_st ti57 pl57 rfl)) ?_
  refine wo_val (.agg [(.int .i64 0), (.int .i64 1440)]) rfl (pv_build (bd_st ti55 pl55 rfl)) ?_
  refine wo_bsC (e := rSpan) (L := [({ From := 0, To := 1440 } : Span)]) (st := 2) (rows := [[(.int .i64 0), (.int .i64 1440)]]) rfl ti35 ti55 rfl rfl rfl rfl rfl (.cons (.cons (.same _) (.cons (.same _) .nil)) .nil) (fun x => ok_Span x) rfl rfl ?_
  refine wo_val (.agg [(.str []), (.sl 2 (List.map rSpan [({ From := 0, To := 1440 } : Span)]))]) rfl (pv_build (bd_st ti57 pl57 rfl)) ?_
  refine wo_bsC (e := rVolume) (L := [({ Name := [], Closed := [({ From := 150, To := 160 } : Span)] } : Volume), ({ Name := [], Closed := [({ From := 0, To := 1440 } : Span)] } : Volume)]) (st := 2) (rows := [[(.str []), (.sl 2 (List.map rSpan [({ From := 150, To := 160 } : Span)]))], [(.str []), (.sl 2 (List.map rSpan [({ From := 0, To := 1440 } : Span)]))]]) rfl ti22 ti57 rfl rfl rfl rfl rfl (.cons (.cons (.same _) (.cons (.same _) .nil)) (.cons (.cons (.same _) (.cons (.same _) .nil)) .nil)) (fun x => ok_Volume x) rfl rfl ?_
  refine wo_val (.agg [(.int .i64 100), (.int .i64 200)]) rfl (pv_build (bd_st ti55 pl55 rfl)) ?_
  refine wo_bsC (e := rSpan) (L := [({ From := 100, To := 200 } : Span)]) (st := 2) (rows := [[(.int .i64 100), (.int .i64 200)]]) rfl ti35 ti55 rfl rfl rfl rfl rfl (.cons (.cons (.same _) (.cons (.same _) .nil)) .nil) (fun x => ok_Span x) rfl rfl ?_
  refine wo_val (.agg [(.str []), (.str []), (.int .i64 0), (.int .i64 30), (.sl 2 (List.map rSpan [({ From := 100, To := 200 } : Span)]))]) rfl (pv_build (bd_st ti59 pl59 rfl)) ?_
  refine wo_val (.agg [(.str []), (.str []), (.int .i64 1), (.int .i64 40), .emp]) rfl (pv_build (bd_st ti59 pl59 rfl)) ?_
  refine wo_bsC (e := rSegment) (L := [({ Name := [], In := [], Volume := 0, Length := 30, Open := [({ From := 100, To := 200 } : Span)] } : Segment), ({ Name := [], In := [], Volume := 1, Length := 40, Open := [] } : Segment)]) (st := 5) (rows := [[(.str []), (.str []), (.int .i64 0), (.int .i64 30), (.sl 2 (List.map rSpan [({ From := 100, To := 200 } : Span)]))], [(.str []), (.str []), (.int .i64 1), (.int .i64 40), .emp]]) rfl ti25 ti59 rfl rfl rfl rfl rfl (.cons (.cons (.same _) (.cons (.same _) (.cons (.same _) (.cons (.same _) (.cons (.same _) .nil))))) (.cons (.cons (.same _) (.cons (.same _) (.cons (.same _) (.cons (.same _) (.cons (.emp _) .nil))))) .nil)) (fun x => ok_Segment x) rfl rfl ?_
  refine wo_bsC (e := (rI .i64)) (L := [0]) (st := 1) (rows := [[(.int .i64 0)]]) rfl ti34 ti3 rfl rfl rfl rfl rfl (.cons (RowSim.refl _) .nil) (fun x => ok_I x) rfl rfl ?_
  refine wo_val (.agg [(.str []), (.str []), (.str []), (.int .i64 0), (.int .i64 0), .emp, (.sl 1 (List.map (rI .i64) [0]))]) rfl (pv_build (bd_st ti50 pl50 rfl)) ?_
  refine wo_bsC (e := (rI .i64)) (L := [0, 1]) (st := 1) (rows := [[(.int .i64 0)], [(.int .i64 1)]]) rfl ti34 ti3 rfl rfl rfl rfl rfl (.cons (RowSim.refl _) (.cons (RowSim.refl _) .nil)) (fun x => ok_I x) rfl rfl ?_
  refine wo_val (.agg [(.str []), (.str []), (.str []), (.int .i64 0), (.int .i64 0), .emp, (.sl 1 (List.map (rI .i64) [0, 1]))]) rfl (pv_build (bd_st ti50 pl50 rfl)) ?_
  refine wo_val (.agg [(.str []), (.str []), (.str []), (.int .i64 0), (.int .i64 0), .emp, .emp]) rfl (pv_build (bd_st ti50 pl50 rfl)) ?_
  refine wo_bsC (e := rRoute) (L := [({ Name := [], A := [], B := [], From := 0, To := 0, Names := [], Segments := [0] } : Route), ({ Name := [], A := [], B := [], From := 0, To := 0, Names := [], Segments := [0, 1] } : Route), ({ Name := [], A := [], B := [], From := 0, To := 0, Names := [], Segments := [] } : Route)]) (st := 7) (rows := [[(.str []), (.str []), (.str []), (.int .i64 0), (.int .i64 0), .emp, (.sl 1 (List.map (rI .i64) [0]))], [(.str []), (.str []), (.str []), (.int .i64 0), (.int .i64 0), .emp, (.sl 1 (List.map (rI .i64) [0, 1]))], [(.str []), (.str []), (.str []), (.int .i64 0), (.int .i64 0), .emp, .emp]]) rfl ti26 ti50 rfl rfl rfl rfl rfl (.cons (.cons (.same _) (.cons (.same _) (.cons (.same _) (.cons (.same _) (.cons (.same _) (.cons (.emp _) (.cons (.same _) .nil))))))) (.cons (.cons (.same _) (.cons (.same _) (.cons (.same _) (.cons (.same _) (.cons (.same _) (.cons (.emp _) (.cons (.same _) .nil))))))) (.cons (.cons (.same _) (.cons (.same _) (.cons (.same _) (.cons (.same _) (.cons (.same _) (.cons (.emp _) (.cons (.emp _) .nil))))))) .nil))) (fun x => ok_Route x) rfl rfl ?_
  refine wo_val (.agg [(.sl 2 (List.map rVolume [({ Name := [], Closed := [({ From := 150, To := 160 } : Span)] } : Volume), ({ Name := [], Closed := [({ From := 0, To := 1440 } : Span)] } : Volume)])), .emp, .emp, (.sl 5 (List.map rSegment [({ Name := [], In := [], Volume := 0, Length := 30, Open := [({ From := 100, To := 200 } : Span)] } : Segment), ({ Name := [], In := [], Volume := 1, Length := 40, Open := [] } : Segment)])), (.sl 7 (List.map rRoute [({ Name := [], A := [], B := [], From := 0, To := 0, Names := [], Segments := [0] } : Route), ({ Name := [], A := [], B := [], From := 0, To := 0, Names := [], Segments := [0, 1] } : Route), ({ Name := [], A := [], B := [], From := 0, To := 0, Names := [], Segments := [] } : Route)])), .emp, .emp, .emp]) rfl (pv_build (bd_st ti31 pl31 rfl)) ?_
  refine wo_store (st_ptr hI rfl rfl rfl rfl ti31 rfl rfl rfl rfl rfl) ?_
  refine wo_nil ?_
  refine wr_hp [(some (.rows g 8 [[(.sl 2 (List.map rVolume [({ Name := [], Closed := [({ From := 150, To := 160 } : Span)] } : Volume), ({ Name := [], Closed := [({ From := 0, To := 1440 } : Span)] } : Volume)])), .emp, .emp, (.sl 5 (List.map rSegment [({ Name := [], In := [], Volume := 0, Length := 30, Open := [({ From := 100, To := 200 } : Span)] } : Segment), ({ Name := [], In := [], Volume := 1, Length := 40, Open := [] } : Segment)])), (.sl 7 (List.map rRoute [({ Name := [], A := [], B := [], From := 0, To := 0, Names := [], Segments := [0] } : Route), ({ Name := [], A := [], B := [], From := 0, To := 0, Names := [], Segments := [0, 1] } : Route), ({ Name := [], A := [], B := [], From := 0, To := 0, Names := [], Segments := [] } : Route)])), .emp, .emp, .emp]]))] rfl ?_
  exact wr_ret (a := ({ Volumes := [({ Name := [], Closed := [({ From := 150, To := 160 } : Span)] } : Volume), ({ Name := [], Closed := [({ From := 0, To := 1440 } : Span)] } : Volume)], Sectors := [], Configs := [], Segments := [({ Name := [], In := [], Volume := 0, Length := 30, Open := [({ From := 100, To := 200 } : Span)] } : Segment), ({ Name := [], In := [], Volume := 1, Length := 40, Open := [] } : Segment)], Routes := [({ Name := [], A := [], B := [], From := 0, To := 0, Names := [], Segments := [0] } : Route), ({ Name := [], A := [], B := [], From := 0, To := 0, Names := [], Segments := [0, 1] } : Route), ({ Name := [], A := [], B := [], From := 0, To := 0, Names := [], Segments := [] } : Route)], Airports := [], Classes := [], Rules := [] } : Airspace)) (vs := [(.agg [(.sl 2 (List.map rVolume [({ Name := [], Closed := [({ From := 150, To := 160 } : Span)] } : Volume), ({ Name := [], Closed := [({ From := 0, To := 1440 } : Span)] } : Volume)])), .emp, .emp, (.sl 5 (List.map rSegment [({ Name := [], In := [], Volume := 0, Length := 30, Open := [({ From := 100, To := 200 } : Span)] } : Segment), ({ Name := [], In := [], Volume := 1, Length := 40, Open := [] } : Segment)])), (.sl 7 (List.map rRoute [({ Name := [], A := [], B := [], From := 0, To := 0, Names := [], Segments := [0] } : Route), ({ Name := [], A := [], B := [], From := 0, To := 0, Names := [], Segments := [0, 1] } : Route), ({ Name := [], A := [], B := [], From := 0, To := 0, Names := [], Segments := [] } : Route)])), .emp, .emp, .emp])]) Try.func24 hI (ares_cell (ld_ptr hI rfl rfl rfl ti31 rfl) ares_nil) (.aggL (.cons (.same _) (.cons (.emp _) (.cons (.emp _) (.cons (.same _) (.cons (.same _) (.cons (.emp _) (.cons (.emp _) (.cons (.emp _) .nil)))))))))

theorem cg_hours_of_2 (l : (List Span)) (h0 : AHeap) (o0 : Nat) (hI0 : Ids h0 [o0] 1) : hours_of_2 l ≠ .bad → ACalls Try.prog 51 [(.sl 2 (List.map rSpan l))] (hp h0 [o0] [none]) (AnsG (fun a_ v h' => ∃ (g2 : Nat), v = (.ptr o0 g2 0 0) ∧ h' = hp h0 [o0] [some (.rows g2 1440 [((rV rB) a_)])]) h0 (hours_of_2 l)) := by
  refine cpg_intro (n := 26) 1 Try.func51 rfl (by decide) rfl rfl hI0 rfl fun ids he hI => ?_
  clear hI0
  obtain rfl : ix ids 0 = o0 := he 0 rfl
  clear he
  refine wr_in (wr_mod (hours_of_2.eq_1 _) ?_)
  refine wr_hp [none, none] rfl ?_
  refine wr_seq ?_
  refine wr_region ?_
  refine wo_val .nilp rfl pv_assign ?_
  refine wo_nil ?_
  refine wr_seq ?_
  refine wr_region ?_
  refine wo_allocV (j := 0) (row := ((rV rB) (vrep 1440 false))) hI rfl rfl rfl rfl ti102 (rV_rep (e := rB) (E := (fun x : Bool => (AV.bool x))) (fun _ => rfl) _).symm ((ok_V (fun x => ok_B x) rfl) _) fun g => ?_
  refine wo_nil ?_
  refine wr_hp [(some (.rows g 1440 [((rV rB) (vrep 1440 false))])), none] rfl ?_
  refine wr_seq ?_
  refine wr_seq ?_
  refine wr_region ?_
  refine wo_val (.sl 2 (List.map rSpan l)) rfl pv_move ?_
  refine wo_val (.int .i64 (l.length : Int)) rfl (pv_len (len_sl ti35)) ?_
  refine wo_val (.int .i64 0) rfl pv_move ?_
  refine wo_nil ?_
  refine wr_block ?_
  refine wr_is [(3, (.ptr (ix ids 0) g 0 0)), (7, (.sl 2 (List.map rSpan l))), (8, (.int .i64 (l.length : Int))), (9, (.int .i64 0))] (.cons rfl (.cons rfl (.cons rfl (.cons rfl .nil)))) ?_
  refine wf_eachS' (P := Try.prog) l (fun _ a => fun o => hours_of_2_b2 a o) (((fun o => .ok o)) : (Vector Bool 1440) → R (Vector Bool 1440))
    (fun j => fun o => fun (fr : Nat → AV) (h : AHeap) => fr = frA [(3, (.ptr (ix ids 0) g 0 0)), (7, (.sl 2 (List.map rSpan l))), (8, (.int .i64 (l.length : Int))), (9, (.int .i64 (j : Int)))] ∧ h = hp h0 ids [(some (.rows g 1440 [((rV rB) o)])), none]) (vrep 1440 false) ?_ ?_ ?_
  · exact ⟨rfl, rfl⟩
  · rintro j a ha W hW o fr h ⟨rfl, rfl⟩
    refine wr_mod (m' := hours_of_2_b2 a o) rfl (wr_mod (hours_of_2_b2.eq_1 _ _) ?_)
    refine wr_seq ?_
    refine wr_region ?_
    refine wo_val (.bool (decide ((j : Int) < (l.length : Int)))) rfl (pv_bin rfl rfl rfl) ?_
    refine wo_nil ?_
    refine wr_seq ?_
    refine wr_lim (t := 7) (L := l) rfl fun hlim => ?_
    refine wr_condT rfl (Int.ofNat_lt.2 (lt_of_get ha)) ?_
    refine wr_skip ?_
    refine wr_seq ?_
    refine wr_block ?_
    refine wr_seq ?_
    refine wr_region ?_
    refine wo_val (.cp (rSpan a) 0) rfl (pv_ixa (ixa_nat ti35 ti55 rfl ha)) ?_
    refine wo_val (.agg (rSpan a)) rfl (pv_load (ld_cp ti55 rfl)) ?_
    refine wo_alloc (j := 1) hI rfl rfl rfl rfl ti55 rfl fun g1 => ?_
    refine wo_store (st_ptr hI rfl rfl rfl rfl ti55 rfl rfl rfl rfl rfl) ?_
    refine wo_nil ?_
    refine wr_hp [(some (.rows g 1440 [((rV rB) o)])), (some (.rows g1 2 [(rSpan a)]))] rfl ?_
    refine wr_seq ?_
    refine wr_region ?_
    refine wo_val (.ptr (ix ids 1) g1 0 0) rfl (pv_fa (fa_ptr (c := 0) (off := 0) (i := 0) ti55 rfl ti3 rfl)) ?_
    refine wo_val (.int .i64 a.From) rfl (pv_load (ld_ptr hI rfl rfl rfl ti3 rfl)) ?_
    refine wo_val (.int .i64 (if 0 > a.From then 0 else a.From)) rfl (pv_max rfl) ?_
    refine wo_val (.int .i64 (if 0 > a.From then 0 else a.From)) rfl pv_assign ?_
    refine wo_nil ?_
    refine wf_join (fun o2 => hours_of_2_j1 o2) (fun o2 => fun (fr : Nat → AV) (h : AHeap) => fr = frA [(3, (.ptr (ix ids 0) g 0 0)), (7, (.sl 2 (List.map rSpan l))), (8, (.int .i64 (l.length : Int))), (9, (.int .i64 (j : Int)))] ∧ h = hp h0 ids [(some (.rows g 1440 [((rV rB) o2)])), none]) ?_ fun hJ => ?_
    · rintro o2 fr h ⟨rfl, rfl⟩
      refine wr_mod (hours_of_2_j1.eq_1 _) ?_
      refine wr_inBlock ?_
      refine wr_region ?_
      refine wo_val (.int .i64 (IntKind.wrap .i64 ((j : Int) + 1))) rfl (pv_bin rfl rfl rfl) ?_
      refine wo_val (.int .i64 (IntKind.wrap .i64 ((j : Int) + 1))) rfl pv_move ?_
      refine wo_nil ?_
      refine wr_is [(3, (.ptr (ix ids 0) g 0 0)), (7, (.sl 2 (List.map rSpan l))), (8, (.int .i64 (l.length : Int))), (9, (.int .i64 ((j + 1 : Nat) : Int)))] (.cons rfl (.cons rfl (.cons rfl (.cons (inc_ok (lt_of_get ha) hlim) .nil)))) ?_
      refine wb_S ?_
      refine hW o2 _ _ ?_
      exact ⟨rfl, rfl⟩
    · refine wr_block ?_
      refine wr_is [(3, (.ptr (ix ids 0) g 0 0)), (5, (.ptr (ix ids 1) g1 0 0)), (6, (.int .i64 (if 0 > a.From then 0 else a.From))), (7, (.sl 2 (List.map rSpan l))), (8, (.int .i64 (l.length : Int))), (9, (.int .i64 (j : Int)))] (.cons rfl (.cons rfl (.cons rfl (.cons rfl (.cons rfl (.cons rfl .nil)))))) ?_
      refine wf_loop' (P := Try.prog) (un2 fun m o1 => hours_of_2_b1 a m o1) ((fun o2 => hours_of_2_j1 o2) : (Vector Bool 1440) → R (Vector Bool 1440))
        (un2 fun m o1 => fun (fr : Nat → AV) (h : AHeap) => fr = frA [(3, (.ptr (ix ids 0) g 0 0)), (5, (.ptr (ix ids 1) g1 0 0)), (6, (.int .i64 m)), (7, (.sl 2 (List.map rSpan l))), (8, (.int .i64 (l.length : Int))), (9, (.int .i64 (j : Int)))] ∧ h = hp h0 ids [(some (.rows g 1440 [((rV rB) o1)])), (some (.rows g1 2 [(rSpan a)]))]) ((if 0 > a.From then 0 else a.From), o) ?_ ?_
      · exact ⟨rfl, rfl⟩
      · rintro vW1 hW1 ⟨m, o1⟩ fr h ⟨rfl, rfl⟩
        refine wr_mod (m' := hours_of_2_b1 a m o1) rfl (wr_mod (hours_of_2_b1.eq_1 _ _ _) ?_)
        refine wr_seq ?_
        refine wr_seq ?_
        refine wr_region ?_
        refine wo_val (.int .i64 m) rfl pv_move ?_
        refine wo_val (.ptr (ix ids 1) g1 0 1) rfl (pv_fa (fa_ptr (c := 0) (off := 1) (i := 1) ti55 rfl ti3 rfl)) ?_
        refine wo_val (.int .i64 a.To) rfl (pv_load (ld_ptr hI rfl rfl rfl ti3 rfl)) ?_
        refine wo_val (.int .i64 (if 1440 < a.To then 1440 else a.To)) rfl (pv_min rfl) ?_
        refine wo_val (.bool (decide (m < (if 1440 < a.To then 1440 else a.To)))) rfl (pv_bin rfl rfl rfl) ?_
        refine wo_nil ?_
        refine wf_ite rfl (fun hc => ?_) (fun hc => ?_)
        · refine wr_skip ?_
          refine wr_seq ?_
          refine wr_block ?_
          refine wr_region ?_
          refine wo_val (.int .i64 m) rfl pv_move ?_
          refine of_need fun hi => ?_
          refine wo_val (.ptr (ix ids 0) g 0 (Int.toNat m)) rfl (pv_ixa (ixa_arrvi ti102 ti4 rfl hi)) ?_
          refine wo_store (st_arr (e := rB) (E := (fun x : Bool => (AV.bool x))) (x := true) (fun _ => rfl) hI rfl rfl rfl ti4 rfl rfl (toNat_lt hi) rfl rfl rfl) ?_
          refine wo_nil ?_
          refine wr_hp [(some (.rows g 1440 [((rV rB) (vset o1 (Int.toNat m) true))])), (some (.rows g1 2 [(rSpan a)]))] rfl ?_
          refine wr_inBlock ?_
          refine wr_region ?_
          refine wo_val (.int .i64 m) rfl pv_move ?_
          refine wo_val (.int .i64 (IntKind.wrap .i64 (m + 1))) rfl (pv_bin rfl rfl rfl) ?_
          refine wo_val (.int .i64 (IntKind.wrap .i64 (m + 1))) rfl pv_assign ?_
          refine wo_nil ?_
          refine wr_is [(3, (.ptr (ix ids 0) g 0 0)), (5, (.ptr (ix ids 1) g1 0 0)), (6, (.int .i64 (IntKind.wrap .i64 (m + 1)))), (7, (.sl 2 (List.map rSpan l))), (8, (.int .i64 (l.length : Int))), (9, (.int .i64 (j : Int)))] (.cons rfl (.cons rfl (.cons rfl (.cons rfl (.cons rfl (.cons rfl .nil)))))) ?_
          refine wb_loop ?_
          refine hW1 ((IntKind.wrap .i64 (m + 1)), (vset o1 (Int.toNat m) true)) _ _ ?_
          exact ⟨rfl, rfl⟩
        · refine wr_exit rfl ?_
          refine wx_loop ?_
          refine wr_drop [(some (.rows g 1440 [((rV rB) o1)])), none] hI rfl (.keep (.drop .nil)) ?_
          refine wr_is [(3, (.ptr (ix ids 0) g 0 0)), (7, (.sl 2 (List.map rSpan l))), (8, (.int .i64 (l.length : Int))), (9, (.int .i64 (j : Int)))] (.cons rfl (.cons rfl (.cons rfl (.cons rfl .nil)))) ?_
          refine hJ o1 _ _ ?_
          exact ⟨rfl, rfl⟩
  · rintro o fr h ⟨rfl, rfl⟩
    refine wr_seq ?_
    refine wr_region ?_
    refine wo_val (.bool (decide ((l.length : Int) < (l.length : Int)))) rfl (pv_bin rfl rfl rfl) ?_
    refine wo_nil ?_
    refine wr_seq ?_
    refine wr_condF rfl (Int.lt_irrefl _) ?_
    refine wr_exit rfl ?_
    refine wr_seq ?_
    refine wr_region ?_
    refine wo_val (.ptr (ix ids 0) g 0 0) rfl pv_assign ?_
    refine wo_nil ?_
    exact wr_retG (K := 1) (N := 1) (a := o) (vs := [(.ptr (ix ids 0) g 0 0)]) [some (.rows g 1440 [((rV rB) o)])] Try.func51 hI rfl rfl rfl (.keep (.keep .nil)) (.same _) ⟨g, rfl, rfl⟩

theorem cp_hours_Minus_c1 (a : Bool) (y : Bool) : CP Try.prog 47 [(.bool a), (.bool y)] (hours_Minus_c1 a y) (fun (x : Bool) => (AV.bool x)) := by
  refine cp_intro (n := 10) 0 Try.func47 rfl (by decide) rfl rfl fun h0 ids hI => ?_
  refine wr_in (wr_mod (hours_Minus_c1.eq_1 _ _) ?_)
  refine wr_seq ?_
  refine wr_region ?_
  refine wo_val (.bool false) rfl pv_assign ?_
  refine wo_nil ?_
  refine wr_seq ?_
  refine wr_region ?_
  refine wo_val (.bool a) rfl pv_move ?_
  refine wo_val (.bool a) rfl pv_move ?_
  refine wo_meet 3 [(9, (.bool (a && (!y))))] ?_ fun hJ => wo_cases a (fun hb1 => ?_) (fun hb1 => ?_)
  · refine wo_val (.bool (a && (!y))) rfl pv_assign ?_
    refine wo_nil ?_
    exact wr_ret (a := (a && (!y))) (vs := [(.bool (a && (!y)))]) Try.func47 hI rfl (.same _)
  · refine wo_valg (tj := 6) (.bool y) rfl (congrArg AV.bool hb1) rfl pv_move ?_
    refine wo_valg (tj := 6) (.bool (!y)) rfl (congrArg AV.bool hb1) rfl (pv_un rfl) ?_
    refine wo_val (.bool (!y)) rfl (pv_pick (t := true) (congrArg AV.bool hb1) rfl) ?_
    exact wo_is [(9, (.bool (a && (!y))))] (.cons (and_t hb1) .nil) hJ
  · refine wo_not (tj := 6) (b := false) rfl (congrArg AV.bool hb1) rfl rfl ?_
    refine wo_not (tj := 6) (b := false) rfl (congrArg AV.bool hb1) rfl rfl ?_
    refine wo_val (.bool false) rfl (pv_pick (t := false) (congrArg AV.bool hb1) rfl) ?_
    exact wo_is [(9, (.bool (a && (!y))))] (.cons (and_f hb1) .nil) hJ

theorem cg_hours_day_spans_2 (s : (Vector Bool 1440)) (h0 : AHeap) (o0 : Nat) (o1 : Nat) (g : Nat) (hI0 : Ids h0 [o0, o1] 2) : hours_day_spans_2 s ≠ .bad → ACalls Try.prog 53 [(.ptr o0 g 0 0)] (hp h0 [o0, o1] [some (.rows g 1440 [((rV rB) s)]), none]) (AnsG (fun a_ v h' => ∃ (g2 : Nat), v = (.func (.func 66) [] [(.ptr o1 g2 0 0)]) ∧ h' = hp h0 [o0, o1] [some (.rows g 1440 [((rV rB) s)]), some (.rows g2 1 [[(.ptr o0 g 0 0)]])]) h0 (hours_day_spans_2 s)) := by
  refine cpg_intro (n := 4) 0 Try.func53 rfl (by decide) rfl rfl hI0 rfl fun ids he hI => ?_
  clear hI0
  obtain rfl : ix ids 0 = o0 := he 0 rfl
  obtain rfl : ix ids 1 = o1 := he 1 rfl
  clear he
  refine wr_in (wr_mod (hours_day_spans_2.eq_1 _) ?_)
  refine wr_seq ?_
  refine wr_region ?_
  refine wo_box (v := (.ptr (ix ids 0) g 0 0)) (j := 1) hI rfl rfl rfl rfl rfl rfl rfl fun g1 => ?_
  refine wo_val .nilf rfl pv_assign ?_
  refine wo_nil ?_
  refine wr_hp [(some (.rows g 1440 [((rV rB) s)])), (some (.rows g1 1 [[(.ptr (ix ids 0) g 0 0)]]))] rfl ?_
  refine wr_seq ?_
  refine wr_region ?_
  refine wo_val (.func (.func 66) [] [(.ptr (ix ids 1) g1 0 0)]) rfl pv_func ?_
  refine wo_val (.func (.func 66) [] [(.ptr (ix ids 1) g1 0 0)]) rfl pv_assign ?_
  refine wo_nil ?_
  exact wr_retG (K := 2) (N := 0) (a := ()) (vs := [(.func (.func 66) [] [(.ptr (ix ids 1) g1 0 0)])]) [some (.rows g 1440 [((rV rB) s)]), some (.rows g1 1 [[(.ptr (ix ids 0) g 0 0)]])] Try.func53 hI rfl rfl rfl (.keep (.keep .nil)) (.same _) ⟨g1, rfl, rfl⟩

theorem cy_hours_day_spans_c1 {σ_ : Type} (b : (Vector Bool 1440)) (b_ : Span → σ_ → R σ_) (St_ : σ_ → AHeap → Prop) (y_ : YF) (o_ g_ : Nat) (hy_ : ∀ (a0_ : Span), YOk Try.prog y_ o_ g_ [(.agg (rSpan a0_))] St_ (b_ a0_)) (hnp_ : ∀ (a0_ : Span) (s : σ_) (v : PV), b_ a0_ s ≠ .pan v) (s_ : σ_) (hh_ : AHeap) (hs_ : St_ s_ hh_) : hours_day_spans_c1 b b_ s_ ≠ .bad → ACalls Try.prog 66 [(.yld y_ o_ g_), (.cp [(.cp ((rV rB) b) 0)] 0)] hh_ (AnsY St_ (hours_day_spans_c1 b b_ s_)) := by
  refine cy_intro (n := 35) Try.func66 rfl (by decide) rfl rfl ?_
  refine wr_in (wr_mod (hours_day_spans_c1.eq_1 _ _ _) ?_)
  refine wr_seq ?_
  refine wr_region ?_
  refine wo_val (.int .i64 0) rfl pv_assign ?_
  refine wo_nil ?_
  refine wf_join (fun s4 => hours_day_spans_c1_j2 s4) (fun s4 => fun (fr : Nat → AV) (h : AHeap) => ∃ (hh4 : AHeap), St_ s4 hh4 ∧ fr = frA [] ∧ hh4 = h) ?_ fun hJ2 => ?_
  · rintro s4 fr h ⟨hh4, vHs4, rfl, rfl⟩
    refine wr_mod (hours_day_spans_c1_j2.eq_1 _) ?_
    exact wr_endY Try.func66 rfl vHs4
  · refine wr_block ?_
    refine wr_is [(0, (.yld y_ o_ g_)), (1, (.cp [(.cp ((rV rB) b) 0)] 0)), (3, (.int .i64 0))] (.cons rfl (.cons rfl (.cons rfl .nil))) ?_
    refine wf_loop' (P := Try.prog) (un2 fun vfrom s => hours_day_spans_c1_b2 b b_ vfrom s) ((fun s4 => hours_day_spans_c1_j2 s4) : σ_ → R σ_)
      (un2 fun vfrom s => fun (fr : Nat → AV) (h : AHeap) => ∃ (hh : AHeap), St_ s hh ∧ fr = frA [(0, (.yld y_ o_ g_)), (1, (.cp [(.cp ((rV rB) b) 0)] 0)), (3, (.int .i64 vfrom))] ∧ hh = h) (0, s_) ?_ ?_
    · exact ⟨_, hs_, rfl, rfl⟩
    · rintro vW hW ⟨vfrom, s⟩ fr h ⟨hh, vHs, rfl, rfl⟩
      refine wr_mod (m' := hours_day_spans_c1_b2 b b_ vfrom s) rfl (wr_mod (hours_day_spans_c1_b2.eq_1 _ _ _ _) ?_)
      refine wr_seq ?_
      refine wr_seq ?_
      refine wr_region ?_
      refine wo_val (.int .i64 vfrom) rfl pv_move ?_
      refine wo_val (.bool (decide (vfrom < 1440))) rfl (pv_bin rfl rfl rfl) ?_
      refine wo_nil ?_
      refine wf_ite rfl (fun hc => ?_) (fun hc => ?_)
      · refine wr_skip ?_
        refine wr_seq ?_
        refine wr_block ?_
        refine wr_seq ?_
        refine wr_seq ?_
        refine wr_region ?_
        refine wo_val (.cp ((rV rB) b) 0) rfl (pv_load (ld_cp ti99 rfl)) ?_
        refine wo_val (.int .i64 vfrom) rfl pv_move ?_
        refine wo_val (.cp ((rV rB) b) 0) rfl (pv_nilCheck rfl) ?_
        refine of_need fun hi => ?_
        refine wo_val (.cp ((rV rB) b) (Int.toNat vfrom)) rfl (pv_ixa (ixa_arrwi ti102 ti4 rfl hi)) ?_
        refine wo_val (.bool (vget b (Int.toNat vfrom) false)) rfl (pv_load (ld_cp ti4 (rd_V (e := rB) (E := (fun x : Bool => (AV.bool x))) (fun _ => rfl) (toNat_lt hi) false))) ?_
        refine wo_val (.bool (!(vget b (Int.toNat vfrom) false))) rfl (pv_un rfl) ?_
        refine wo_nil ?_
        refine wf_itebn rfl (fun hc1 => ?_) (fun hc1 => ?_)
        · refine wr_skip ?_
          refine wr_seq ?_
          refine wr_region ?_
          refine wo_val (.int .i64 vfrom) rfl pv_move ?_
          refine wo_val (.int .i64 (IntKind.wrap .i64 (vfrom + 1))) rfl (pv_bin rfl rfl rfl) ?_
          refine wo_val (.int .i64 (IntKind.wrap .i64 (vfrom + 1))) rfl pv_assign ?_
          refine wo_nil ?_
          refine wr_seq ?_
          refine wf_join (un2 fun vto1 s2 => hours_day_spans_c1_j1 b_ vfrom vto1 s2) (un2 fun vto1 s2 => fun (fr : Nat → AV) (h : AHeap) => ∃ (hh2 : AHeap), St_ s2 hh2 ∧ fr = frA [(0, (.yld y_ o_ g_)), (1, (.cp [(.cp ((rV rB) b) 0)] 0)), (3, (.int .i64 vfrom)), (4, (.int .i64 vto1))] ∧ hh2 = h) ?_ fun hJ1 => ?_
          · rintro ⟨vto1, s2⟩ fr h ⟨hh2, vHs2, rfl, rfl⟩
            refine wr_mod (hours_day_spans_c1_j1.eq_1 _ _ _ _) ?_
            refine wr_seq ?_
            refine wr_seq ?_
            refine wr_region ?_
            refine wo_val (.yld y_ o_ g_) rfl pv_move ?_
            refine wo_val (.int .i64 vfrom) rfl pv_move ?_
            refine wo_val (.int .i64 vto1) rfl pv_move ?_
            refine wo_val (.agg [(.int .i64 vfrom), (.int .i64 vto1)]) rfl (pv_build (bd_st ti55 pl55 rfl)) ?_
            refine of_yield (b := b_ ({ From := vfrom, To := vto1 } : Span)) rfl rfl rfl vHs2 (hy_ ({ From := vfrom, To := vto1 } : Span)) (hnp_ ({ From := vfrom, To := vto1 } : Span) _) fun s3 hb2 hh3 vHs3 => ?_
            refine wo_val (.bool false) rfl (pv_un rfl) ?_
            refine wo_nil ?_
            refine wr_cond false rfl ?_
            refine wr_skip ?_
            refine wr_region ?_
            refine wo_val (.int .i64 vto1) rfl pv_move ?_
            refine wo_val (.int .i64 vto1) rfl pv_assign ?_
            refine wo_nil ?_
            refine wr_inBlock ?_
            refine wr_region ?_
            refine wo_val (.int .i64 vto1) rfl pv_move ?_
            refine wo_val (.int .i64 (IntKind.wrap .i64 (vto1 + 1))) rfl (pv_bin rfl rfl rfl) ?_
            refine wo_val (.int .i64 (IntKind.wrap .i64 (vto1 + 1))) rfl pv_assign ?_
            refine wo_nil ?_
            refine wr_is [(0, (.yld y_ o_ g_)), (1, (.cp [(.cp ((rV rB) b) 0)] 0)), (3, (.int .i64 (IntKind.wrap .i64 (vto1 + 1))))] (.cons rfl (.cons rfl (.cons rfl .nil))) ?_
            refine wb_loop ?_
            refine hW ((IntKind.wrap .i64 (vto1 + 1)), s3) _ _ ?_
            exact ⟨_, vHs3, rfl, rfl⟩
          · refine wr_block ?_
            refine wr_is [(0, (.yld y_ o_ g_)), (1, (.cp [(.cp ((rV rB) b) 0)] 0)), (3, (.int .i64 vfrom)), (4, (.int .i64 (IntKind.wrap .i64 (vfrom + 1))))] (.cons rfl (.cons rfl (.cons rfl (.cons rfl .nil)))) ?_
            refine wf_loop' (P := Try.prog) (un2 fun vto s1 => hours_day_spans_c1_b1 b vto s1) ((un2 fun vto1 s2 => hours_day_spans_c1_j1 b_ vfrom vto1 s2) : (Int × σ_) → R ((Int × σ_) ⊕ σ_))
              (un2 fun vto s1 => fun (fr : Nat → AV) (h : AHeap) => ∃ (hh1 : AHeap), St_ s1 hh1 ∧ fr = frA [(0, (.yld y_ o_ g_)), (1, (.cp [(.cp ((rV rB) b) 0)] 0)), (3, (.int .i64 vfrom)), (4, (.int .i64 vto))] ∧ hh1 = h) ((IntKind.wrap .i64 (vfrom + 1)), s) ?_ ?_
            · exact ⟨_, vHs, rfl, rfl⟩
            · rintro vW1 hW1 ⟨vto, s1⟩ fr h ⟨hh1, vHs1, rfl, rfl⟩
              refine wr_mod (m' := hours_day_spans_c1_b1 b vto s1) rfl (wr_mod (hours_day_spans_c1_b1.eq_1 _ _ _) ?_)
              refine wr_seq ?_
              refine wr_seq ?_
              refine wr_region ?_
              refine wo_val (.int .i64 vto) rfl pv_move ?_
              refine wo_val (.bool (decide (vto < 1440))) rfl (pv_bin rfl rfl rfl) ?_
              refine wo_val (.bool (decide (vto < 1440))) rfl pv_move ?_
              refine wo_join 6 ((fun (b1 : Bool) => if b1 then
(.ok (.inl ((IntKind.wrap .i64 (vto + 1)), s1)))
else
(.ok (.inr ((vto, s1))))) : Bool → R ((Int × σ_) ⊕ (Int × σ_))) (fun (b1 : Bool) (fr : Nat → AV) (h : AHeap) => fr = frA [(0, (.yld y_ o_ g_)), (1, (.cp [(.cp ((rV rB) b) 0)] 0)), (3, (.int .i64 vfrom)), (4, (.int .i64 vto)), (25, (.bool b1))] ∧ hh1 = h) ?_ fun hJ => of_if1 (fun hb1 => ?_) (fun hb1 => ?_)
              · rintro b1 fr h ⟨rfl, rfl⟩
                refine wo_nil ?_
                refine wf_iteb rfl (fun hc2 => ?_) (fun hc2 => ?_)
                · refine wr_skip ?_
                  refine wr_block ?_
                  refine wr_region ?_
                  refine wo_val (.int .i64 vto) rfl pv_move ?_
                  refine wo_val (.int .i64 (IntKind.wrap .i64 (vto + 1))) rfl (pv_bin rfl rfl rfl) ?_
                  refine wo_val (.int .i64 (IntKind.wrap .i64 (vto + 1))) rfl pv_assign ?_
                  refine wo_nil ?_
                  refine wr_inBlock ?_
                  refine wr_is [(0, (.yld y_ o_ g_)), (1, (.cp [(.cp ((rV rB) b) 0)] 0)), (3, (.int .i64 vfrom)), (4, (.int .i64 (IntKind.wrap .i64 (vto + 1))))] (.cons rfl (.cons rfl (.cons rfl (.cons rfl .nil)))) ?_
                  refine wb_loop ?_
                  refine hW1 ((IntKind.wrap .i64 (vto + 1)), s1) _ _ ?_
                  exact ⟨_, vHs1, rfl, rfl⟩
                · refine wr_exit rfl ?_
                  refine wx_loop ?_
                  refine wr_is [(0, (.yld y_ o_ g_)), (1, (.cp [(.cp ((rV rB) b) 0)] 0)), (3, (.int .i64 vfrom)), (4, (.int .i64 vto))] (.cons rfl (.cons rfl (.cons rfl (.cons rfl .nil)))) ?_
                  refine hJ1 (vto, s1) _ _ ?_
                  exact ⟨_, vHs1, rfl, rfl⟩
              · refine wo_valg (tj := 19) (.cp ((rV rB) b) 0) rfl (congrArg AV.bool hb1) rfl (pv_load (ld_cp ti99 rfl)) ?_
                refine wo_valg (tj := 19) (.int .i64 vto) rfl (congrArg AV.bool hb1) rfl pv_move ?_
                refine wo_valg (tj := 19) (.cp ((rV rB) b) 0) rfl (congrArg AV.bool hb1) rfl (pv_nilCheck rfl) ?_
                refine of_need fun hi1 => ?_
                refine wo_valg (tj := 19) (.cp ((rV rB) b) (Int.toNat vto)) rfl (congrArg AV.bool hb1) rfl (pv_ixa (ixa_arrwi ti102 ti4 rfl hi1)) ?_
                refine wo_valg (tj := 19) (.bool (vget b (Int.toNat vto) false)) rfl (congrArg AV.bool hb1) rfl (pv_load (ld_cp ti4 (rd_V (e := rB) (E := (fun x : Bool => (AV.bool x))) (fun _ => rfl) (toNat_lt hi1) false))) ?_
                refine wo_val (.bool (vget b (Int.toNat vto) false)) rfl (pv_pick (t := true) (congrArg AV.bool hb1) rfl) ?_
                refine wo_back1 ?_
                refine wo_is [(0, (.yld y_ o_ g_)), (1, (.cp [(.cp ((rV rB) b) 0)] 0)), (3, (.int .i64 vfrom)), (4, (.int .i64 vto)), (25, (.bool (vget b (Int.toNat vto) false)))] (.cons rfl (.cons rfl (.cons rfl (.cons rfl (.cons rfl .nil))))) ?_
                exact hJ (vget b (Int.toNat vto) false) _ _ ⟨rfl, rfl⟩
              · refine wo_not (tj := 19) (b := false) rfl (congrArg AV.bool hb1) rfl rfl ?_
                refine wo_not (tj := 19) (b := false) rfl (congrArg AV.bool hb1) rfl rfl ?_
                refine wo_not (tj := 19) (b := false) rfl (congrArg AV.bool hb1) rfl rfl ?_
                refine wo_not (tj := 19) (b := false) rfl (congrArg AV.bool hb1) rfl rfl ?_
                refine wo_not (tj := 19) (b := false) rfl (congrArg AV.bool hb1) rfl rfl ?_
                refine wo_val (.bool false) rfl (pv_pick (t := false) (congrArg AV.bool hb1) rfl) ?_
                refine wo_back1 ?_
                refine wo_is [(0, (.yld y_ o_ g_)), (1, (.cp [(.cp ((rV rB) b) 0)] 0)), (3, (.int .i64 vfrom)), (4, (.int .i64 vto)), (25, (.bool false))] (.cons rfl (.cons rfl (.cons rfl (.cons rfl (.cons rfl .nil))))) ?_
                exact hJ false _ _ ⟨rfl, rfl⟩
        · refine wr_exit rfl ?_
          refine wr_region ?_
          refine wo_val (.int .i64 vfrom) rfl pv_move ?_
          refine wo_val (.int .i64 (IntKind.wrap .i64 (vfrom + 1))) rfl (pv_bin rfl rfl rfl) ?_
          refine wo_val (.int .i64 (IntKind.wrap .i64 (vfrom + 1))) rfl pv_assign ?_
          refine wo_nil ?_
          refine wr_is [(0, (.yld y_ o_ g_)), (1, (.cp [(.cp ((rV rB) b) 0)] 0)), (3, (.int .i64 (IntKind.wrap .i64 (vfrom + 1))))] (.cons rfl (.cons rfl (.cons rfl .nil))) ?_
          refine wb_loop ?_
          refine hW ((IntKind.wrap .i64 (vfrom + 1)), s) _ _ ?_
          exact ⟨_, vHs, rfl, rfl⟩
      · refine wr_exit rfl ?_
        refine wx_loop ?_
        refine wr_is [] .nil ?_
        refine hJ2 s _ _ ?_
        exact ⟨_, vHs, rfl, rfl⟩

theorem cg_slices_AppendSeq_Span_c1 (s1 : (Vector Bool 1440)) (h0 : AHeap) (o0 : Nat) (o1 : Nat) (g : Nat) (g1 : Nat) (hI0 : Ids h0 [o0, o1] 2) : slices_AppendSeq_Span_c1 s1 ≠ .bad → ACalls Try.prog 65 [.emp, (.func (.func 66) [] [(.ptr o0 g 0 0)])] (hp h0 [o0, o1] [some (.rows g 1 [[(.ptr o1 g1 0 0)]]), some (.rows g1 1440 [((rV rB) s1)])]) (AnsG (fun a_ v h' => v = (.sl 2 (List.map rSpan a_)) ∧ h' = hp h0 [o0, o1] [none, none]) h0 (slices_AppendSeq_Span_c1 s1)) := by
  refine cpg_intro (n := 13) 4 Try.func65 rfl (by decide) rfl rfl hI0 rfl fun ids he hI => ?_
  clear hI0
  obtain rfl : ix ids 0 = o0 := he 0 rfl
  obtain rfl : ix ids 1 = o1 := he 1 rfl
  clear he
  refine wr_in (wr_mod (slices_AppendSeq_Span_c1.eq_1 _) ?_)
  refine wr_hp [(some (.rows g 1 [[(.ptr (ix ids 1) g1 0 0)]])), (some (.rows g1 1440 [((rV rB) s1)])), none, none, none, none] rfl ?_
  refine wr_star ?_
  refine wr_seq ?_
  refine wr_region ?_
  refine wo_box (v := .emp) (j := 2) hI rfl rfl rfl rfl rfl rfl rfl fun g2 => ?_
  refine wo_val .emp rfl pv_assign ?_
  refine wo_nil ?_
  refine wr_hp [(some (.rows g 1 [[(.ptr (ix ids 1) g1 0 0)]])), (some (.rows g1 1440 [((rV rB) s1)])), (some (.rows g2 1 [[.emp]])), none, none, none] rfl ?_
  refine wr_seq ?_
  refine wr_seq ?_
  refine wr_region ?_
  refine wo_val (.func (.func 66) [] [(.ptr (ix ids 0) g 0 0)]) rfl pv_move ?_
  refine wo_nil ?_
  refine wr_block ?_
  refine wr_frz (h2 := hp h0 ids [none, none, (some (.rows g2 1 [[.emp]])), none, none, none]) [(2, (.ptr (ix ids 2) g2 0 0)), (6, (.func (.func 66) [] [(.cp [(.cp ((rV rB) s1) 0)] 0)]))] (Drops.sub (.drop (.drop (.keep (.keep (.keep (.keep .nil)))))) hI.len) (.cons (.same _) (.cons (.funcL .nil (.cons (.ptrL (hI.at rfl rfl) (hI.at rfl rfl) rfl (.cons (.ptrL (hI.at rfl rfl) (hI.at rfl rfl) ((ok_V (fun x => ok_B x) rfl) _).1 (lf_refl _)) .nil)) .nil)) .nil)) rfl rfl ?_
  refine wr_is [(2, (.ptr (ix ids 2) g2 0 0)), (6, (.func (.func 66) [] [(.cp [(.cp ((rV rB) s1) 0)] 0)]))] (.cons rfl (.cons rfl .nil)) ?_
  refine wf_rangeFunc (P := Try.prog) 3 (fun (gL : Nat) (r_L : Loop) => fun l => fun (h1 : AHeap) => ∃ (v1 : AV), ∃ (g3 : Nat), OwnV v1 (ix ids 5) g3 l.length ∧ h1 = hp h0 ids [none, none, (some (.rows g2 1 [[v1]])), (some (.blk gL (.loop r_L))), none, (ownO v1 g3 2 (List.map rSpan l))] : Nat → Loop → (List Span) → AHeap → Prop) rfl rfl hI rfl rfl rfl fun gL y_L r_L hl_L hy_L => ⟨?_, ?_, ?_, ?_⟩
  · refine cy_hours_day_spans_c1 s1 _ _ _ _ _ (fun a => yok_intro hl_L (by decide) rfl hy_L ?_ ?_) (fun _ _ _ => R.np_ne _ _) _ _ ?_
    · rintro l _ ⟨v1, g3, vH, rfl⟩
      exact hI.at rfl rfl
    · rintro lo_ l _ ⟨v1, g3, vH, rfl⟩
      refine wr_np (wr_in (wr_mod (m' := slices_AppendSeq_Span_c1_b1 a l) rfl (wr_mod (slices_AppendSeq_Span_c1_b1.eq_1 _ _) ?_)))
      refine wr_frl [(7, (.agg (rSpan a))), (2, (.ptr (ix ids 2) g2 0 0)), (6, (.func (.func 66) [] [(.cp [(.cp ((rV rB) s1) 0)] 0)]))] (frPut_frA _ _ _) ?_
      refine wr_region ?_
      refine wo_alloc (j := 4) hI rfl rfl rfl rfl ti55 rfl fun g4 => ?_
      refine wo_store (st_ptr hI rfl rfl rfl rfl ti55 rfl rfl rfl rfl rfl) ?_
      refine wo_nil ?_
      refine wr_hp [none, none, (some (.rows g2 1 [[v1]])), (some (.blk gL (.loop r_L))), (some (.rows g4 2 [(rSpan a)])), (ownO v1 g3 2 (List.map rSpan l))] rfl ?_
      refine wr_beginRoundH hI rfl rfl rfl hl_L.ready ?_
      refine wr_hp [none, none, (some (.rows g2 1 [[v1]])), (some (.blk gL (.loop { r_L with state := .busy }))), (some (.rows g4 2 [(rSpan a)])), (ownO v1 g3 2 (List.map rSpan l))] rfl ?_
      refine wr_block ?_
      refine wr_region ?_
      refine wo_val v1 rfl (pv_load (ld_ptr hI rfl rfl rfl ti35 rfl)) ?_
      refine wo_val (.agg (rSpan a)) rfl (pv_load (ld_ptr hI rfl rfl rfl ti55 rfl)) ?_
      refine wo_bsC (e := rSpan) (L := [a]) (st := 2) (rows := [[(.int .i64 a.From), (.int .i64 a.To)]]) rfl ti35 ti55 rfl rfl rfl rfl rfl (.cons (RowSim.refl _) .nil) (fun x => ok_Span x) rfl rfl ?_
      refine of_need fun hl => ?_
      refine wo_append (e := rSpan) (L := l) (L2 := [a]) (v := v1) (g := g3) (st := 2) (j := 5) hI rfl rfl rfl rfl vH rfl (src_sl rfl) ti35 ti35 rfl ti55 rfl rfl rfl hl fun v2 g5 vH1 => ?_
      refine wo_store (st_ptrO vH1 hI rfl rfl rfl rfl ti35 rfl rfl rfl) ?_
      refine wo_nil ?_
      refine wr_hp [none, none, (some (.rows g2 1 [[v2]])), (some (.blk gL (.loop { r_L with state := .busy }))), (some (.rows g4 2 [(rSpan a)])), (ownO v2 g5 2 (List.map rSpan (l ++ [a])))] rfl ?_
      refine wr_inBlock ?_
      refine wr_drop [none, none, (some (.rows g2 1 [[v2]])), (some (.blk gL (.loop { r_L with state := .busy }))), none, (ownO v2 g5 2 (List.map rSpan (l ++ [a])))] hI rfl (.keep (.keep (.keep (.keep (.drop (.keep .nil)))))) ?_
      exact wr_endBH (s := (l ++ [a])) (jL := 3) hI rfl rfl rfl ⟨v2, g5, vH1, rfl⟩
    · exact ⟨.emp, 0, .nil, rfl⟩
  · rintro l _ ⟨v1, g3, vH, rfl⟩
    exact hI.at rfl rfl
  · rintro l _ _ ⟨v1, g3, vH, rfl⟩
    refine wr_upd [none, none, (some (.rows g2 1 [[v1]])), none, none, (ownO v1 g3 2 (List.map rSpan l))] hI rfl rfl rfl ?_
    refine wr_inBlock ?_
    refine wr_seq ?_
    refine wr_region ?_
    refine wo_val v1 rfl (pv_load (ld_ptr hI rfl rfl rfl ti35 rfl)) ?_
    refine wo_val v1 rfl pv_assign ?_
    refine wo_nil ?_
    exact wr_retU (wu_star (wu_retG (K := 2) (N := 4) (a := l) (vs := [v1]) [none, none] Try.func65 hI rfl rfl rfl (.keep (.keep (.drop (.keep (.keep (.drop .nil)))))) (own_fz vH (hI.at rfl rfl) (hI.at rfl rfl) (fun x => ok_Span x)) ⟨rfl, rfl⟩))
  · rintro v3 _ l _ ⟨v1, g3, vH, rfl⟩
    refine wu_upd [none, none, (some (.rows g2 1 [[v1]])), none, none, (ownO v1 g3 2 (List.map rSpan l))] hI rfl rfl rfl ?_
    exact wu_star (wu_panG (K := 2) (N := 4) Try.func65 hI)

theorem cg_slices_Collect_Span_c1 (s1 : (Vector Bool 1440)) (h0 : AHeap) (o0 : Nat) (o1 : Nat) (g : Nat) (g1 : Nat) (hI0 : Ids h0 [o0, o1] 2) : slices_Collect_Span_c1 s1 ≠ .bad → ACalls Try.prog 52 [(.func (.func 66) [] [(.ptr o0 g 0 0)])] (hp h0 [o0, o1] [some (.rows g 1 [[(.ptr o1 g1 0 0)]]), some (.rows g1 1440 [((rV rB) s1)])]) (AnsG (fun a_ v h' => v = (.sl 2 (List.map rSpan a_)) ∧ h' = hp h0 [o0, o1] [none, none]) h0 (slices_Collect_Span_c1 s1)) := by
  refine cpg_intro (n := 5) 0 Try.func52 rfl (by decide) rfl rfl hI0 rfl fun ids he hI => ?_
  clear hI0
  obtain rfl : ix ids 0 = o0 := he 0 rfl
  obtain rfl : ix ids 1 = o1 := he 1 rfl
  clear he
  refine wr_in (wr_mod (slices_Collect_Span_c1.eq_1 _) ?_)
  refine wr_seq ?_
  refine wr_region ?_
  refine wo_val .emp rfl pv_assign ?_
  refine wo_nil ?_
  refine wr_seq ?_
  refine wr_region ?_
  refine wo_val (.func (.func 66) [] [(.ptr (ix ids 0) g 0 0)]) rfl pv_move ?_
  refine of_callG [0, 1] hI rfl rfl (cg_slices_AppendSeq_Span_c1 s1 _ (ix ids 0) (ix ids 1) g g1 (by exact hI.sub' rfl rfl)) rfl rfl rfl rfl rfl rfl (fun v _ => wu_panG (K := 2) (N := 0) Try.func52 hI) ?_
  rintro r _ _ _ ⟨rfl, rfl⟩
  refine wo_putH [0, 1] [none, none] hI rfl rfl rfl rfl ?_
  refine wo_put1 ?_
  refine wo_val (.sl 2 (List.map rSpan r)) rfl pv_assign ?_
  refine wo_nil ?_
  refine wr_hp [none, none] rfl ?_
  exact wr_retG (K := 2) (N := 0) (a := r) (vs := [(.sl 2 (List.map rSpan r))]) [none, none] Try.func52 hI rfl rfl rfl (.keep (.keep .nil)) (.same _) ⟨rfl, rfl⟩

theorem cp_hours_combine_c1 (a : (List Span)) (b : (List Span)) : CP Try.prog 46 [(.sl 2 (List.map rSpan a)), (.sl 2 (List.map rSpan b)), (.func (.func 47) [] [])] (hours_combine_c1 a b) (fun (x : (List Span)) => (AV.sl 2 (List.map rSpan x))) := by
  refine cp_intro (n := 37) 3 Try.func46 rfl (by decide) rfl rfl fun h0 ids hI => ?_
  refine wr_in (wr_mod (hours_combine_c1.eq_1 _ _) ?_)
  refine wr_seq ?_
  refine wr_region ?_
  refine wo_val .emp rfl pv_assign ?_
  refine wo_nil ?_
  refine wr_seq ?_
  refine wr_region ?_
  refine wo_val (.sl 2 (List.map rSpan a)) rfl pv_move ?_
  refine of_callG [0] hI rfl rfl (cg_hours_of_2 a _ (ix ids 0) (by exact hI.sub' rfl rfl)) rfl rfl rfl rfl rfl rfl (fun v _ => wu_pan Try.func46 hI) ?_
  rintro d _ _ _ ⟨g, rfl, rfl⟩
  refine wo_putH [0] [(some (.rows g 1440 [((rV rB) d)])), none, none] hI rfl rfl rfl rfl ?_
  refine wo_put1 ?_
  refine wo_val (.sl 2 (List.map rSpan b)) rfl pv_move ?_
  refine of_callG [1] hI rfl rfl (cg_hours_of_2 b _ (ix ids 1) (by exact hI.sub' rfl rfl)) rfl rfl rfl rfl rfl rfl (fun v _ => wu_pan Try.func46 hI) ?_
  rintro e _ _ _ ⟨g1, rfl, rfl⟩
  refine wo_putH [1] [(some (.rows g 1440 [((rV rB) d)])), (some (.rows g1 1440 [((rV rB) e)])), none] hI rfl rfl rfl rfl ?_
  refine wo_put1 ?_
  refine wo_val (.ptr (ix ids 0) g 0 0) rfl pv_assign ?_
  refine wo_val (.ptr (ix ids 1) g1 0 0) rfl pv_assign ?_
  refine wo_nil ?_
  refine wr_hp [(some (.rows g 1440 [((rV rB) d)])), (some (.rows g1 1440 [((rV rB) e)])), none] rfl ?_
  refine wr_seq ?_
  refine wr_seq ?_
  refine wr_region ?_
  refine wo_val (.int .i64 0) rfl pv_move ?_
  refine wo_nil ?_
  refine wr_block ?_
  refine wr_is [(2, (.func (.func 47) [] [])), (7, (.ptr (ix ids 0) g 0 0)), (8, (.ptr (ix ids 1) g1 0 0)), (14, (.int .i64 0))] (.cons rfl (.cons rfl (.cons rfl (.cons rfl .nil)))) ?_
  refine wf_eachS' (P := Try.prog) (List.range 1440) (fun j _ => fun o => hours_combine_c1_b1 e j o) (((fun o => (hours_day_spans_2 o).bind fun _ =>
  (slices_Collect_Span_c1 o).bind fun r2 =>
  .ok r2)) : (Vector Bool 1440) → R (List Span))
    (fun j => fun o => fun (fr : Nat → AV) (h : AHeap) => fr = frA [(2, (.func (.func 47) [] [])), (7, (.ptr (ix ids 0) g 0 0)), (8, (.ptr (ix ids 1) g1 0 0)), (14, (.int .i64 (j : Int)))] ∧ h = hp h0 ids [(some (.rows g 1440 [((rV rB) o)])), (some (.rows g1 1440 [((rV rB) e)])), none]) d ?_ ?_ ?_
  · exact ⟨rfl, rfl⟩
  · rintro j a1 ha1 W hW o fr h ⟨rfl, rfl⟩
    refine wr_mod (m' := hours_combine_c1_b1 e j o) rfl (wr_mod (hours_combine_c1_b1.eq_1 _ _ _) ?_)
    refine wr_seq ?_
    refine wr_region ?_
    refine wo_val (.bool (decide ((j : Int) < 1440))) rfl (pv_bin rfl rfl rfl) ?_
    refine wo_nil ?_
    refine wr_seq ?_
    refine wr_condT rfl (by have := (range_get ha1).1; omega) ?_
    refine wr_skip ?_
    refine wr_seq ?_
    refine wr_block ?_
    refine wr_seq ?_
    refine wr_region ?_
    refine wo_val (.int .i64 (j : Int)) rfl pv_move ?_
    refine wo_val (.int .i64 (j : Int)) rfl pv_assign ?_
    refine wo_nil ?_
    refine wr_draw hmix [[], [], [], [], [], [3], [3, 4, 5], [3, 4, 5, 6], [], [], [8], [8, 9, 10], [8, 9, 10, 11], [2, 3, 4, 5, 6, 7, 8, 9, 10, 11, 12], [0], [0, 1, 1, 2, 3, 4, 5, 6, 7, 8, 9, 10, 11, 12, 13, 14], [0, 1, 2, 3, 4, 5, 6, 7, 8, 9, 10, 11, 12, 13, 14, 15]] [(false, 0), (false, 1), (false, 2), (false, 3), (false, 4), (false, 5), (false, 6), (false, 7), (false, 8), (false, 9), (false, 10), (false, 11), (false, 12), (false, 14), (true, 13), (false, 15), (true, 16)] (by kernel_rfl) ?_
    refine wp_val (.ptr (ix ids 0) g 0 0) rfl rfl pv_move ?_
    refine wp_val (.int .i64 (j : Int)) rfl rfl pv_move ?_
    refine wp_val (.func (.func 47) [] []) rfl rfl pv_move ?_
    refine wp_val (.ptr (ix ids 0) g 0 0) rfl rfl pv_move ?_
    refine wp_val (.int .i64 (j : Int)) rfl rfl pv_move ?_
    refine wp_val (.ptr (ix ids 0) g 0 0) rfl rfl (pv_nilCheck rfl) ?_
    refine wp_val (.ptr (ix ids 0) g 0 j) rfl rfl (pv_ixa (ixa_arrv ti102 ti4 rfl (range_get ha1).1)) ?_
    refine wp_val (.bool (vget o j false)) rfl rfl (pv_load (ld_ptr hI rfl rfl rfl ti4 (rd_V (e := rB) (E := (fun x : Bool => (AV.bool x))) (fun _ => rfl) (range_get ha1).1 false))) ?_
    refine wp_val (.ptr (ix ids 1) g1 0 0) rfl rfl pv_move ?_
    refine wp_val (.int .i64 (j : Int)) rfl rfl pv_move ?_
    refine wp_val (.ptr (ix ids 1) g1 0 0) rfl rfl (pv_nilCheck rfl) ?_
    refine wp_val (.ptr (ix ids 1) g1 0 j) rfl rfl (pv_ixa (ixa_arrv ti102 ti4 rfl (range_get ha1).1)) ?_
    refine wp_val (.bool (vget e j false)) rfl rfl (pv_load (ld_ptr hI rfl rfl rfl ti4 (rd_V (e := rB) (E := (fun x : Bool => (AV.bool x))) (fun _ => rfl) (range_get ha1).1 false))) ?_
    refine wp_val (.ptr (ix ids 0) g 0 0) rfl rfl (pv_nilCheck rfl) ?_
    refine wp_call [(.bool (vget o j false)), (.bool (vget e j false))] rfl rfl rfl rfl rfl ((cp_hours_Minus_c1 (vget o j false) (vget e j false)) _) (fun v _ _ _ => wu_pan Try.func46 hI) (pend_no rfl (pv_nilCheck rfl) (pend_yes rfl (pend_yes rfl (pend_yes rfl (pend_yes rfl (pend_yes rfl (pend_yes rfl (pend_yes rfl (pend_yes rfl (pend_yes rfl (pend_yes rfl (pend_yes rfl (pend_no rfl pv_move (pend_no rfl pv_move pend_nil)))))))))))))) fun r _ => ?_
    refine wp_val (.ptr (ix ids 0) g 0 j) rfl rfl (pv_ixa (ixa_arrv ti102 ti4 rfl (range_get ha1).1)) ?_
    refine wp_op0 rfl (fun _ _ => rfl) (fun K hK => eff_store (st_arr (e := rB) (E := (fun x : Bool => (AV.bool x))) (x := r) (fun _ => rfl) hI rfl rfl rfl ti4 rfl rfl (range_get ha1).1 rfl rfl rfl) (hK _ _ (pend_yes rfl (pend_yes rfl (pend_yes rfl (pend_yes rfl (pend_yes rfl (pend_yes rfl (pend_yes rfl (pend_yes rfl (pend_yes rfl (pend_yes rfl (pend_yes rfl (pend_yes rfl (pend_yes rfl (pend_yes rfl (pend_yes rfl pend_nil))))))))))))))) ?_)) 
    clear hK K
    refine wp_nil ?_
    refine wr_hp [(some (.rows g 1440 [((rV rB) (vset o j r))])), (some (.rows g1 1440 [((rV rB) e)])), none] rfl ?_
    refine wr_inBlock ?_
    refine wr_region ?_
    refine wo_val (.int .i64 (IntKind.wrap .i64 ((j : Int) + 1))) rfl (pv_bin rfl rfl rfl) ?_
    refine wo_val (.int .i64 (IntKind.wrap .i64 ((j : Int) + 1))) rfl pv_move ?_
    refine wo_nil ?_
    refine wr_is [(2, (.func (.func 47) [] [])), (7, (.ptr (ix ids 0) g 0 0)), (8, (.ptr (ix ids 1) g1 0 0)), (14, (.int .i64 ((j + 1 : Nat) : Int)))] (.cons rfl (.cons rfl (.cons rfl (.cons (inc_ok (range_get ha1).1 (by decide)) .nil)))) ?_
    refine wb_S ?_
    refine hW (vset o j r) _ _ ?_
    exact ⟨rfl, rfl⟩
  · rintro o fr h ⟨rfl, rfl⟩
    refine wr_seq ?_
    refine wr_region ?_
    refine wo_val (.bool (decide (((List.range 1440).length : Int) < 1440))) rfl (pv_bin rfl rfl rfl) ?_
    refine wo_nil ?_
    refine wr_seq ?_
    refine wr_condF rfl (by simp) ?_
    refine wr_exit rfl ?_
    refine wr_seq ?_
    refine wr_region ?_
    refine wo_val (.ptr (ix ids 0) g 0 0) rfl pv_move ?_
    refine of_callG [0, 2] hI rfl rfl (cg_hours_day_spans_2 o _ (ix ids 0) (ix ids 2) g (by exact hI.sub' rfl rfl)) rfl rfl rfl rfl rfl rfl (fun v _ => wu_pan Try.func46 hI) ?_
    rintro _ _ _ _ ⟨g2, rfl, rfl⟩
    refine wo_putH [0, 2] [(some (.rows g 1440 [((rV rB) o)])), (some (.rows g1 1440 [((rV rB) e)])), (some (.rows g2 1 [[(.ptr (ix ids 0) g 0 0)]]))] hI rfl rfl rfl rfl ?_
    refine wo_put1 ?_
    refine of_callG [2, 0] hI rfl rfl (cg_slices_Collect_Span_c1 o _ (ix ids 2) (ix ids 0) g2 g (by exact hI.sub' rfl rfl)) rfl rfl rfl rfl rfl rfl (fun v _ => wu_pan Try.func46 hI) ?_
    rintro r2 _ _ _ ⟨rfl, rfl⟩
    refine wo_putH [2, 0] [none, (some (.rows g1 1440 [((rV rB) e)])), none] hI rfl rfl rfl rfl ?_
    refine wo_put1 ?_
    refine wo_val (.sl 2 (List.map rSpan r2)) rfl pv_assign ?_
    refine wo_nil ?_
    refine wr_hp [none, (some (.rows g1 1440 [((rV rB) e)])), none] rfl ?_
    exact wr_ret (a := r2) (vs := [(.sl 2 (List.map rSpan r2))]) Try.func46 hI rfl (.same _)

theorem cp_hours_Minus (a : (List Span)) (b : (List Span)) : CP Try.prog 38 [(.sl 2 (List.map rSpan a)), (.sl 2 (List.map rSpan b))] (hours_Minus a b) (fun (x : (List Span)) => (AV.sl 2 (List.map rSpan x))) := by
  refine cp_intro (n := 8) 0 Try.func38 rfl (by decide) rfl rfl fun h0 ids hI => ?_
  refine wr_in (wr_mod (hours_Minus.eq_1 _ _) ?_)
  refine wr_seq ?_
  refine wr_region ?_
  refine wo_val .emp rfl pv_assign ?_
  refine wo_nil ?_
  refine wr_seq ?_
  refine wr_region ?_
  refine wo_val (.sl 2 (List.map rSpan a)) rfl pv_move ?_
  refine wo_val (.sl 2 (List.map rSpan b)) rfl pv_move ?_
  refine of_call [(.sl 2 (List.map rSpan a)), (.sl 2 (List.map rSpan b)), (.func (.func 47) [] [])] rfl rfl rfl rfl ((cp_hours_combine_c1 a b) _) (fun v _ => wu_pan Try.func38 hI) fun r _ => ?_
  refine wo_val (.sl 2 (List.map rSpan r)) rfl pv_assign ?_
  refine wo_nil ?_
  exact wr_ret (a := r) (vs := [(.sl 2 (List.map rSpan r))]) Try.func38 hI rfl (.same _)

theorem cp_opening_minutes (a : Airspace) (segment : Int) : CP Try.prog 27 [(.agg (rAirspace a)), (.int .i64 segment)] (opening_minutes a segment) (fun (x : (List Span)) => (AV.sl 2 (List.map rSpan x))) := by
  refine cp_intro (n := 52) 2 Try.func27 rfl (by decide) rfl rfl fun h0 ids hI => ?_
  refine wr_in (wr_mod (opening_minutes.eq_1 _ _) ?_)
  refine wr_seq ?_
  refine wr_region ?_
  refine wo_box (v := (.agg (rAirspace a))) (j := 0) hI rfl rfl rfl rfl rfl rfl rfl fun g => ?_
  refine wo_val .emp rfl pv_assign ?_
  refine wo_nil ?_
  refine wr_hp [(some (.rows g 8 [(rAirspace a)])), none] rfl ?_
  refine wr_seq ?_
  refine wr_seq ?_
  refine wr_region ?_
  refine wo_val (.int .i64 segment) rfl pv_move ?_
  refine wo_val (.bool (decide (segment < 0))) rfl (pv_bin rfl rfl rfl) ?_
  refine wo_val (.bool (decide (segment < 0))) rfl pv_move ?_
  refine wo_meet 6 [(1, (.int .i64 segment)), (2, (.ptr (ix ids 0) g 0 0)), (15, (.bool ((decide (segment < 0)) || (decide (segment ≥ (a.Segments.length : Int))))))] ?_ fun hJ => wo_cases (decide (segment < 0)) (fun hb1 => ?_) (fun hb1 => ?_)
  · refine wo_nil ?_
    refine wf_iteb rfl (fun hc => ?_) (fun hc => ?_)
    · refine wr_region ?_
      refine wo_val (.agg []) rfl (pv_build (bd_st ti86 pl86 rfl)) ?_
      refine wo_val (.iface 86 (.agg [])) rfl (pv_iface ti86 (by decide)) ?_
      exact wo_panic (v := ⟨86, .unit⟩) rfl rfl (wu_pan Try.func27 hI)
    · refine wr_skip ?_
      refine wr_seq ?_
      refine wr_region ?_
      refine wo_val (.ptr (ix ids 0) g 0 3) rfl (pv_fa (fa_ptr (c := 0) (off := 3) (i := 3) ti31 rfl ti25 rfl)) ?_
      refine wo_val (.sl 5 (List.map rSegment a.Segments)) rfl (pv_load (ld_ptr hI rfl rfl rfl ti25 rfl)) ?_
      refine wo_val (.int .i64 segment) rfl pv_move ?_
      refine of_idx fun a1 hz hx1 => ?_
      refine wo_val (.cp (rSegment a1) 0) rfl (pv_ixa (ixa_sl ti25 ti59 rfl hz hx1)) ?_
      refine wo_val (.agg (rSegment a1)) rfl (pv_load (ld_cp ti59 rfl)) ?_
      refine wo_alloc (j := 1) hI rfl rfl rfl rfl ti59 rfl fun g1 => ?_
      refine wo_store (st_ptr hI rfl rfl rfl rfl ti59 rfl rfl rfl rfl rfl) ?_
      refine wo_nil ?_
      refine wr_hp [(some (.rows g 8 [(rAirspace a)])), (some (.rows g1 5 [(rSegment a1)]))] rfl ?_
      refine wr_seq ?_
      refine wr_seq ?_
      refine wr_region ?_
      refine wo_val (.ptr (ix ids 1) g1 0 2) rfl (pv_fa (fa_ptr (c := 0) (off := 2) (i := 2) ti59 rfl ti3 rfl)) ?_
      refine wo_val (.int .i64 a1.Volume) rfl (pv_load (ld_ptr hI rfl rfl rfl ti3 rfl)) ?_
      refine wo_val (.bool (decide (a1.Volume < 0))) rfl (pv_bin rfl rfl rfl) ?_
      refine wo_val (.bool (decide (a1.Volume < 0))) rfl pv_move ?_
      refine wo_meet 7 [(2, (.ptr (ix ids 0) g 0 0)), (5, (.ptr (ix ids 1) g1 0 0)), (33, (.bool ((decide (a1.Volume < 0)) || (decide (a1.Volume ≥ (a.Volumes.length : Int))))))] ?_ fun hJ1 => wo_cases (decide (a1.Volume < 0)) (fun hb3 => ?_) (fun hb3 => ?_)
      · refine wo_nil ?_
        refine wf_iteb rfl (fun hc1 => ?_) (fun hc1 => ?_)
        · refine wr_region ?_
          refine wo_val (.agg []) rfl (pv_build (bd_st ti86 pl86 rfl)) ?_
          refine wo_val (.iface 86 (.agg [])) rfl (pv_iface ti86 (by decide)) ?_
          exact wo_panic (v := ⟨86, .unit⟩) rfl rfl (wu_pan Try.func27 hI)
        · refine wr_skip ?_
          refine wr_seq ?_
          refine wr_region ?_
          refine wo_val (.ptr (ix ids 1) g1 0 4) rfl (pv_fa (fa_ptr (c := 0) (off := 4) (i := 4) ti59 rfl ti35 rfl)) ?_
          refine wo_val (.sl 2 (List.map rSpan a1.Open)) rfl (pv_load (ld_ptr hI rfl rfl rfl ti35 rfl)) ?_
          refine wo_val (.sl 2 (List.map rSpan a1.Open)) rfl pv_assign ?_
          refine wo_nil ?_
          refine wr_seq ?_
          refine wr_seq ?_
          refine wr_region ?_
          refine wo_val (.sl 2 (List.map rSpan a1.Open)) rfl pv_move ?_
          refine wo_val (.int .i64 (a1.Open.length : Int)) rfl (pv_len (len_sl ti35)) ?_
          refine wo_val (.bool ((a1.Open.length : Int) == 0)) rfl (pv_bin rfl rfl rfl) ?_
          refine wo_nil ?_
          refine wf_join (fun vopen => opening_minutes_j1 a a1 vopen) (fun vopen => fun (fr : Nat → AV) (h : AHeap) => fr = frA [(2, (.ptr (ix ids 0) g 0 0)), (5, (.ptr (ix ids 1) g1 0 0)), (6, (.sl 2 (List.map rSpan vopen)))] ∧ h = hp h0 ids [(some (.rows g 8 [(rAirspace a)])), (some (.rows g1 5 [(rSegment a1)]))]) ?_ fun hJ2 => ?_
          · rintro vopen fr h ⟨rfl, rfl⟩
            refine wr_mod (opening_minutes_j1.eq_1 _ _ _) ?_
            refine wr_seq ?_
            refine wr_region ?_
            refine wo_val (.sl 2 (List.map rSpan vopen)) rfl pv_move ?_
            refine wo_val (.ptr (ix ids 0) g 0 0) rfl (pv_fa (fa_ptr (c := 0) (off := 0) (i := 0) ti31 rfl ti22 rfl)) ?_
            refine wo_val (.sl 2 (List.map rVolume a.Volumes)) rfl (pv_load (ld_ptr hI rfl rfl rfl ti22 rfl)) ?_
            refine wo_val (.ptr (ix ids 1) g1 0 2) rfl (pv_fa (fa_ptr (c := 0) (off := 2) (i := 2) ti59 rfl ti3 rfl)) ?_
            refine wo_val (.int .i64 a1.Volume) rfl (pv_load (ld_ptr hI rfl rfl rfl ti3 rfl)) ?_
            refine of_idx fun a2 hz1 hx2 => ?_
            refine wo_val (.cp (rVolume a2) 0) rfl (pv_ixa (ixa_sl ti22 ti57 rfl hz1 hx2)) ?_
            refine wo_val (.cp (rVolume a2) 1) rfl (pv_fa (fa_cp (c := 0) (off := 1) (i := 1) ti57 rfl ti35 rfl)) ?_
            refine wo_val (.sl 2 (List.map rSpan a2.Closed)) rfl (pv_load (ld_cp ti35 rfl)) ?_
            refine of_call [(.sl 2 (List.map rSpan vopen)), (.sl 2 (List.map rSpan a2.Closed))] rfl rfl rfl rfl ((cp_hours_Minus vopen a2.Closed) _) (fun v _ => wu_pan Try.func27 hI) fun r _ => ?_
            refine wo_val (.sl 2 (List.map rSpan r)) rfl pv_assign ?_
            refine wo_nil ?_
            exact wr_ret (a := r) (vs := [(.sl 2 (List.map rSpan r))]) Try.func27 hI rfl (.same _)
          · refine wf_iteb rfl (fun hc2 => ?_) (fun hc2 => ?_)
            · refine wr_region ?_
              refine wo_val (.agg [(.int .i64 0), (.int .i64 1440)]) rfl (pv_build (bd_st ti55 pl55 rfl)) ?_
              refine wo_bsC (e := rSpan) (L := [({ From := 0, To := 1440 } : Span)]) (st := 2) (rows := [[(.int .i64 0), (.int .i64 1440)]]) rfl ti35 ti55 rfl rfl rfl rfl rfl (.cons (.cons (.same _) (.cons (.same _) .nil)) .nil) (fun x => ok_Span x) rfl rfl ?_
              refine wo_val (.sl 2 (List.map rSpan [({ From := 0, To := 1440 } : Span)])) rfl pv_assign ?_
              refine wo_nil ?_
              refine wr_is [(2, (.ptr (ix ids 0) g 0 0)), (5, (.ptr (ix ids 1) g1 0 0)), (6, (.sl 2 (List.map rSpan [({ From := 0, To := 1440 } : Span)])))] (.cons rfl (.cons rfl (.cons rfl .nil))) ?_
              refine hJ2 [({ From := 0, To := 1440 } : Span)] _ _ ?_
              exact ⟨rfl, rfl⟩
            · refine wr_skip ?_
              refine wr_is [(2, (.ptr (ix ids 0) g 0 0)), (5, (.ptr (ix ids 1) g1 0 0)), (6, (.sl 2 (List.map rSpan a1.Open)))] (.cons rfl (.cons rfl (.cons rfl .nil))) ?_
              refine hJ2 a1.Open _ _ ?_
              exact ⟨rfl, rfl⟩
      · refine wo_not (tj := 26) (b := true) rfl (congrArg AV.bool hb3) rfl rfl ?_
        refine wo_not (tj := 26) (b := true) rfl (congrArg AV.bool hb3) rfl rfl ?_
        refine wo_not (tj := 26) (b := true) rfl (congrArg AV.bool hb3) rfl rfl ?_
        refine wo_not (tj := 26) (b := true) rfl (congrArg AV.bool hb3) rfl rfl ?_
        refine wo_not (tj := 26) (b := true) rfl (congrArg AV.bool hb3) rfl rfl ?_
        refine wo_not (tj := 26) (b := true) rfl (congrArg AV.bool hb3) rfl rfl ?_
        refine wo_val (.bool true) rfl (pv_pick (t := true) (congrArg AV.bool hb3) rfl) ?_
        exact wo_is [(2, (.ptr (ix ids 0) g 0 0)), (5, (.ptr (ix ids 1) g1 0 0)), (33, (.bool ((decide (a1.Volume < 0)) || (decide (a1.Volume ≥ (a.Volumes.length : Int))))))] (.cons rfl (.cons rfl (.cons (or_t hb3) .nil))) hJ1
      · refine wo_valg (tj := 26) (.ptr (ix ids 1) g1 0 2) rfl (congrArg AV.bool hb3) rfl (pv_fa (fa_ptr (c := 0) (off := 2) (i := 2) ti59 rfl ti3 rfl)) ?_
        refine wo_valg (tj := 26) (.int .i64 a1.Volume) rfl (congrArg AV.bool hb3) rfl (pv_load (ld_ptr hI rfl rfl rfl ti3 rfl)) ?_
        refine wo_valg (tj := 26) (.ptr (ix ids 0) g 0 0) rfl (congrArg AV.bool hb3) rfl (pv_fa (fa_ptr (c := 0) (off := 0) (i := 0) ti31 rfl ti22 rfl)) ?_
        refine wo_valg (tj := 26) (.sl 2 (List.map rVolume a.Volumes)) rfl (congrArg AV.bool hb3) rfl (pv_load (ld_ptr hI rfl rfl rfl ti22 rfl)) ?_
        refine wo_valg (tj := 26) (.int .i64 (a.Volumes.length : Int)) rfl (congrArg AV.bool hb3) rfl (pv_len (len_sl ti22)) ?_
        refine wo_valg (tj := 26) (.bool (decide (a1.Volume ≥ (a.Volumes.length : Int)))) rfl (congrArg AV.bool hb3) rfl (pv_bin rfl rfl rfl) ?_
        refine wo_val (.bool (decide (a1.Volume ≥ (a.Volumes.length : Int)))) rfl (pv_pick (t := false) (congrArg AV.bool hb3) rfl) ?_
        exact wo_is [(2, (.ptr (ix ids 0) g 0 0)), (5, (.ptr (ix ids 1) g1 0 0)), (33, (.bool ((decide (a1.Volume < 0)) || (decide (a1.Volume ≥ (a.Volumes.length : Int))))))] (.cons rfl (.cons rfl (.cons (or_f hb3) .nil))) hJ1
  · refine wo_not (tj := 9) (b := true) rfl (congrArg AV.bool hb1) rfl rfl ?_
    refine wo_not (tj := 9) (b := true) rfl (congrArg AV.bool hb1) rfl rfl ?_
    refine wo_not (tj := 9) (b := true) rfl (congrArg AV.bool hb1) rfl rfl ?_
    refine wo_not (tj := 9) (b := true) rfl (congrArg AV.bool hb1) rfl rfl ?_
    refine wo_not (tj := 9) (b := true) rfl (congrArg AV.bool hb1) rfl rfl ?_
    refine wo_val (.bool true) rfl (pv_pick (t := true) (congrArg AV.bool hb1) rfl) ?_
    exact wo_is [(1, (.int .i64 segment)), (2, (.ptr (ix ids 0) g 0 0)), (15, (.bool ((decide (segment < 0)) || (decide (segment ≥ (a.Segments.length : Int))))))] (.cons rfl (.cons rfl (.cons (or_t hb1) .nil))) hJ
  · refine wo_valg (tj := 9) (.int .i64 segment) rfl (congrArg AV.bool hb1) rfl pv_move ?_
    refine wo_valg (tj := 9) (.ptr (ix ids 0) g 0 3) rfl (congrArg AV.bool hb1) rfl (pv_fa (fa_ptr (c := 0) (off := 3) (i := 3) ti31 rfl ti25 rfl)) ?_
    refine wo_valg (tj := 9) (.sl 5 (List.map rSegment a.Segments)) rfl (congrArg AV.bool hb1) rfl (pv_load (ld_ptr hI rfl rfl rfl ti25 rfl)) ?_
    refine wo_valg (tj := 9) (.int .i64 (a.Segments.length : Int)) rfl (congrArg AV.bool hb1) rfl (pv_len (len_sl ti25)) ?_
    refine wo_valg (tj := 9) (.bool (decide (segment ≥ (a.Segments.length : Int)))) rfl (congrArg AV.bool hb1) rfl (pv_bin rfl rfl rfl) ?_
    refine wo_val (.bool (decide (segment ≥ (a.Segments.length : Int)))) rfl (pv_pick (t := false) (congrArg AV.bool hb1) rfl) ?_
    exact wo_is [(1, (.int .i64 segment)), (2, (.ptr (ix ids 0) g 0 0)), (15, (.bool ((decide (segment < 0)) || (decide (segment ≥ (a.Segments.length : Int))))))] (.cons rfl (.cons rfl (.cons (or_f hb1) .nil))) hJ

theorem cp_opening_caught (w : AV) : CP Try.prog 26 [.nili, w] (opening_caught) (fun (_ : Unit) => AV.tup []) := by
  refine cp_intro (n := 15) 0 Try.func26 rfl (by decide) rfl rfl fun h0 ids hI => ?_
  refine wr_in (wr_mod (opening_caught.eq_1) ?_)
  refine wr_seq ?_
  refine wr_region ?_
  refine wo_val .nili rfl pv_move ?_
  refine wo_nil ?_
  refine wr_block ?_
  refine wr_seq ?_
  refine wr_region ?_
  refine wo_val (.bool true) rfl (pv_bin rfl rfl (bin_nn ti20)) ?_
  refine wo_nil ?_
  refine wr_cond true rfl ?_
  refine wr_region ?_
  refine wo_val .nili rfl pv_assign ?_
  refine wo_nil ?_
  refine wr_inBlock ?_
  exact wr_end (a := ()) (vs := []) Try.func26 hI rfl (.tupL .nil)

theorem cdr_opening_Minutes_c1 (a0 : AV) (h : AHeap) : ADefer Try.prog 25 [a0] .ret h (DAns (fun _ : Unit => h) .ret (.ok ())) := by
  refine cd_intro (n := 3) Try.func25 rfl (by decide) rfl rfl ?_ ⟨(), rfl⟩
  refine wr_in (wr_mod (m' := (opening_caught).bind fun _ =>   .ok ()) rfl ?_)
  refine wr_region ?_
  refine wo_recR rfl ?_
  refine of_call [.nili, a0] rfl rfl rfl rfl ((cp_opening_caught a0) _) (fun v hv => by unfold opening_caught at hv; cases hv) fun _ _ => ?_
  refine wo_nil ?_
  exact wr_endD Try.func25 rfl rfl rfl

theorem cg_opening_caught_2 (p : T85) (h0 : AHeap) (o0 : Nat) (r : List AV) (g : Nat) (hr : r.length = 1) (hI0 : Ids h0 [o0] 1) : opening_caught_2 p ≠ .bad → ACalls Try.prog 26 [(.iface 86 (.agg (rT85 p))), (.ptr o0 g 0 0)] (hp h0 [o0] [some (.rows g 1 [r])]) (AnsG (fun a_ v h' => v = (.tup []) ∧ h' = hp h0 [o0] [some (.rows g 1 [[(.int .i64 1)]])]) h0 (opening_caught_2 p)) := by
  refine cpg_intro (n := 15) 1 Try.func26 rfl (by decide) rfl rfl hI0 rfl fun ids he hI => ?_
  clear hI0
  obtain rfl : ix ids 0 = o0 := he 0 rfl
  clear he
  refine wr_in (wr_mod (opening_caught_2.eq_1 _) ?_)
  refine wr_hp [(some (.rows g 1 [r])), none] rfl ?_
  refine wr_seq ?_
  refine wr_region ?_
  refine wo_val (.iface 86 (.agg (rT85 p))) rfl pv_move ?_
  refine wo_nil ?_
  refine wr_block ?_
  refine wr_seq ?_
  refine wr_region ?_
  refine wo_val (.bool false) rfl (pv_bin rfl rfl (bin_ifn ti20)) ?_
  refine wo_nil ?_
  refine wr_cond false rfl ?_
  refine wr_seq ?_
  refine wr_region ?_
  refine wo_val (.tup [(.agg (rT85 p)), (.bool true)]) rfl (pv_as (as_ok2 ti86 (by decide))) ?_
  refine wo_val (.bool true) rfl (pv_ext rfl) ?_
  refine wo_val (.agg (rT85 p)) rfl (pv_ext rfl) ?_
  refine wo_nil ?_
  refine wr_cond true rfl ?_
  refine wr_seq ?_
  refine wr_region ?_
  refine wo_alloc (j := 1) hI rfl rfl rfl rfl ti86 rfl fun g1 => ?_
  refine wo_store (st_ptr hI rfl rfl rfl rfl ti86 rfl rfl rfl rfl rfl) ?_
  refine wo_nil ?_
  refine wr_hp [(some (.rows g 1 [r])), (some (.rows g1 0 [(rT85 p)]))] rfl ?_
  refine wr_region ?_
  refine wo_val (.ptr (ix ids 0) g 0 0) rfl pv_move ?_
  refine wo_val (.ptr (ix ids 0) g 0 0) rfl (pv_nilCheck rfl) ?_
  refine wo_store (st_ptrA hI rfl rfl rfl ti36 rfl rfl rfl hr rfl) ?_
  refine wo_nil ?_
  refine wr_hp [(some (.rows g 1 [[(.int .i64 1)]])), (some (.rows g1 0 [(rT85 p)]))] rfl ?_
  refine wr_inBlock ?_
  exact wr_endG (K := 1) (N := 1) (a := ()) (vs := []) [some (.rows g 1 [[(.int .i64 1)]])] Try.func26 hI rfl rfl rfl (.keep (.drop .nil)) (.same _) ⟨rfl, rfl⟩

theorem cdp_opening_Minutes_c1_h86 (h0 : AHeap) (ids : List Nat) (hI : Ids h0 ids 1) (g0_ : Nat) (r0_ : List AV) (hr0_ : r0_.length = 1) : (∃ a, opening_Minutes_c1_h86 = .ok a) → ADefer Try.prog 25 [(.ptr (ix ids 0) g0_ 0 0)] (.pan (.iface 86 (.agg [])) false) (hp h0 ids [some (.rows g0_ 1 [r0_])]) (DAns (fun p => hp h0 ids [some (.rows g0_ 1 [[(.int .i64 1)]])]) (.pan (.iface 86 (.agg [])) true) (opening_Minutes_c1_h86)) := by
  refine cd_intro (n := 3) Try.func25 rfl (by decide) rfl rfl ?_
  refine wr_in (wr_mod (opening_Minutes_c1_h86.eq_1) ?_)
  refine wr_region ?_
  refine wo_recP rfl ?_
  refine of_callG [0] hI rfl rfl (cg_opening_caught_2 ({} : T85) _ (ix ids 0) r0_ g0_ hr0_ (by exact hI.sub' rfl rfl)) rfl rfl rfl rfl rfl rfl (fun v hv => by unfold opening_caught_2 at hv; cases hv) ?_
  rintro _ _ _ _ ⟨rfl, rfl⟩
  refine wo_putH [0] [(some (.rows g0_ 1 [[(.int .i64 1)]]))] hI rfl rfl rfl rfl ?_
  refine wo_put1 ?_
  refine wo_nil ?_
  refine wr_hp [(some (.rows g0_ 1 [[(.int .i64 1)]]))] rfl ?_
  exact wr_endD (a := ()) Try.func25 rfl rfl rfl

theorem cp_opening_Minutes (a : Airspace) (segment : Int) : CP Try.prog 10 [(.agg (rAirspace a)), (.int .i64 segment)] (opening_Minutes a segment) (fun (p : ((List Span) × Int)) => AV.tup [(.sl 2 (List.map rSpan p.1)), (.int .i64 p.2)]) := by
  show CP _ _ _ ((opening_Minutes_m a segment).catch' (catchU 86 ((opening_Minutes_c1_h86).bind fun _ => .ok ([], 1)) (fun _ => .bad))) _
  refine cpc_intro (n := 10) 2 Try.func10 rfl (by decide) rfl rfl fun h0 ids hI => ?_
  have hU : ∀ (v : PV) (fr : Nat → AV) (xs : List (Option AO)) (g0_ : Nat) (r0_ : List AV) (hl_ : xs.length = 2) (hr0_ : r0_.length = 1) (hy_ : xs.take 1 = [some (.rows g0_ 1 [r0_])]) (hq4_ : fr 4 = .emp) (hq5_ : fr 5 = .ptr (ix ids 0) g0_ 0 0), WU Try.prog 10 10 false (SpecC (fun (p : ((List Span) × Int)) => AV.tup [(.sl 2 (List.map rSpan p.1)), (.int .i64 p.2)]) h0 (catchU 86 ((opening_Minutes_c1_h86).bind fun _ => .ok ([], 1)) (fun _ => .bad))) (.pan v) (.pan v.av false) fr [⟨25, [.ptr (ix ids 0) g0_ 0 0]⟩] (hp h0 ids xs) .ret := by
    intro v fr xs g0_ r0_ hl_ hr0_ hy_ hq4_ hq5_
    refine wu_hU (t := 86) rfl (fun hv => ?_) (fun hne86 => ?_)
    · subst hv
      exact wu_catch (Hc := opening_Minutes_c1_h86) (fin := fun _ => ([], 1)) (c := 1) (cells := fun p => [some (.rows g0_ 1 [[(.int .i64 1)]])]) (vs := fun p => [.emp, (.int .i64 1)]) Try.func10 hI hl_ rfl hy_ (by first | (rw [catchU_eq]; done) | (rw [catchU_eq]; rfl)) (fun hx => by have := cdp_opening_Minutes_c1_h86 h0 (ids.take 1) (hI.take rfl) g0_ r0_ hr0_ hx; simp only [ix_take (c := 1) (j := 0) rfl] at this; exact this) (by intro w; simp [opening_Minutes_c1_h86, opening_caught_2]) (fun p => (ares_tmp' hq4_ (ares_cell' hq5_ (ld_ptr' (hI.take rfl) (ix_take rfl) rfl rfl rfl ti36 rfl) ares_nil))) (fun p => (.tupL (.cons (.emp _) (.cons (.same _) .nil))))
    exact wu_hN (by rw [catchU_ne hne86])
  refine wr_in (wr_mod (opening_Minutes_m.eq_1 _ _) ?_)
  refine wr_seq ?_
  refine wr_region ?_
  refine wo_box (v := (.agg (rAirspace a))) (j := 1) hI rfl rfl rfl rfl rfl rfl rfl fun g => ?_
  refine wo_val .emp rfl pv_assign ?_
  refine wo_alloc (j := 0) hI rfl rfl rfl rfl ti36 rfl fun g1 => ?_
  refine wo_nil ?_
  refine wr_hp [(some (.rows g1 1 [[(.int .i64 0)]])), (some (.rows g 8 [(rAirspace a)]))] rfl ?_
  refine wr_seq ?_
  refine wr_region ?_
  refine wo_val (.func (.func 25) [] [(.ptr (ix ids 0) g1 0 0)]) rfl pv_func ?_
  refine wo_defer rfl rfl rfl ?_
  refine wo_nil ?_
  refine wr_seq ?_
  refine wr_region ?_
  refine wo_val (.agg (rAirspace a)) rfl (pv_load (ld_ptr hI rfl rfl rfl ti31 rfl)) ?_
  refine wo_val (.int .i64 segment) rfl pv_move ?_
  refine of_call [(.agg (rAirspace a)), (.int .i64 segment)] rfl rfl rfl rfl ((cp_opening_minutes a segment) _) (fun v _ => hU v _ _ _ _ rfl rfl rfl rfl rfl) fun l _ => ?_
  refine wo_val (.sl 2 (List.map rSpan l)) rfl pv_assign ?_
  refine wo_store (st_ptr hI rfl rfl rfl rfl ti36 rfl rfl rfl rfl rfl) ?_
  refine wo_nil ?_
  exact wr_retC (a := (l, 0)) (vs := [(.sl 2 (List.map rSpan l)), (.int .i64 0)]) Try.func10 hI (cdr_opening_Minutes_c1 _ _) (ares_tmp (ares_cell (ld_ptr hI rfl rfl rfl ti36 rfl) ares_nil)) (.tupL (.cons (.same _) (.cons (.same _) .nil)))

theorem cg_opening_legs_2 (a : Airspace) (route : Int) (h0 : AHeap) (o0 : Nat) (o1 : Nat) (hI0 : Ids h0 [o0, o1] 2) : opening_legs_2 a route ≠ .bad → ACalls Try.prog 31 [(.agg (rAirspace a)), (.int .i64 route)] (hp h0 [o0, o1] [none, none]) (AnsG (fun a_ v h' => ∃ (g2 : Nat), ∃ (g3 : Nat), v = (.func (.func 41) [] [(.ptr o1 g3 0 0), (.ptr o0 g2 0 0)]) ∧ h' = hp h0 [o0, o1] [some (.rows g2 8 [(rAirspace a)]), some (.rows g3 1 [[(.int .i64 route)]])]) h0 (opening_legs_2 a route)) := by
  refine cpg_intro (n := 6) 0 Try.func31 rfl (by decide) rfl rfl hI0 rfl fun ids he hI => ?_
  clear hI0
  obtain rfl : ix ids 0 = o0 := he 0 rfl
  obtain rfl : ix ids 1 = o1 := he 1 rfl
  clear he
  refine wr_in (wr_mod (opening_legs_2.eq_1 _ _) ?_)
  refine wr_seq ?_
  refine wr_region ?_
  refine wo_box (v := (.agg (rAirspace a))) (j := 0) hI rfl rfl rfl rfl rfl rfl rfl fun g => ?_
  refine wo_box (v := (.int .i64 route)) (j := 1) hI rfl rfl rfl rfl rfl rfl rfl fun g1 => ?_
  refine wo_val .nilf rfl pv_assign ?_
  refine wo_nil ?_
  refine wr_hp [(some (.rows g 8 [(rAirspace a)])), (some (.rows g1 1 [[(.int .i64 route)]]))] rfl ?_
  refine wr_seq ?_
  refine wr_region ?_
  refine wo_val (.func (.func 41) [] [(.ptr (ix ids 1) g1 0 0), (.ptr (ix ids 0) g 0 0)]) rfl pv_func ?_
  refine wo_val (.func (.func 41) [] [(.ptr (ix ids 1) g1 0 0), (.ptr (ix ids 0) g 0 0)]) rfl pv_assign ?_
  refine wo_nil ?_
  exact wr_retG (K := 2) (N := 0) (a := ()) (vs := [(.func (.func 41) [] [(.ptr (ix ids 1) g1 0 0), (.ptr (ix ids 0) g 0 0)])]) [some (.rows g 8 [(rAirspace a)]), some (.rows g1 1 [[(.int .i64 route)]])] Try.func31 hI rfl rfl rfl (.keep (.keep .nil)) (.same _) ⟨g, g1, rfl, rfl⟩

theorem cy_opening_legs_c1 {σ_ : Type} (b : Int) (c : Airspace) (b_ : Leg → σ_ → R σ_) (St_ : σ_ → AHeap → Prop) (y_ : YF) (o_ g_ : Nat) (hy_ : ∀ (a0_ : Leg), YOk Try.prog y_ o_ g_ [(.agg (rLeg a0_))] St_ (b_ a0_)) (hnp_ : ∀ (a0_ : Leg) (s : σ_) (v : PV), b_ a0_ s ≠ .pan v) (s_ : σ_) (hh_ : AHeap) (hs_ : St_ s_ hh_) : opening_legs_c1 b c b_ s_ ≠ .bad → ACalls Try.prog 41 [(.yld y_ o_ g_), (.cp [(.int .i64 b)] 0), (.cp (rAirspace c) 0)] hh_ (AnsY St_ (opening_legs_c1 b c b_ s_)) := by
  refine cy_intro (n := 51) Try.func41 rfl (by decide) rfl rfl ?_
  refine wr_in (wr_mod (opening_legs_c1.eq_1 _ _ _ _) ?_)
  refine wr_seq ?_
  refine wr_seq ?_
  refine wr_region ?_
  refine wo_val (.int .i64 b) rfl (pv_load (ld_cp ti3 rfl)) ?_
  refine wo_val (.bool (decide (b < 0))) rfl (pv_bin rfl rfl rfl) ?_
  refine wo_val (.bool (decide (b < 0))) rfl pv_move ?_
  refine wo_meet 6 [(0, (.yld y_ o_ g_)), (1, (.cp [(.int .i64 b)] 0)), (2, (.cp (rAirspace c) 0)), (15, (.bool ((decide (b < 0)) || (decide (b ≥ (c.Routes.length : Int))))))] ?_ fun hJ => wo_cases (decide (b < 0)) (fun hb1 => ?_) (fun hb1 => ?_)
  · refine wo_nil ?_
    refine wf_iteb rfl (fun hc => ?_) (fun hc => ?_)
    · refine wr_region ?_
      refine wo_val (.agg []) rfl (pv_build (bd_st ti86 pl86 rfl)) ?_
      refine wo_val (.iface 86 (.agg [])) rfl (pv_iface ti86 (by decide)) ?_
      exact wo_panic (v := ⟨86, .unit⟩) rfl rfl (wu_panY Try.func41 hs_)
    · refine wr_skip ?_
      refine wr_seq ?_
      refine wr_region ?_
      refine wo_val (.cp (rAirspace c) 4) rfl (pv_fa (fa_cp (c := 0) (off := 4) (i := 4) ti31 rfl ti26 rfl)) ?_
      refine wo_val (.sl 7 (List.map rRoute c.Routes)) rfl (pv_load (ld_cp ti26 rfl)) ?_
      refine wo_val (.int .i64 b) rfl (pv_load (ld_cp ti3 rfl)) ?_
      refine of_idx fun a hz hx1 => ?_
      refine wo_val (.cp (rRoute a) 0) rfl (pv_ixa (ixa_sl ti26 ti50 rfl hz hx1)) ?_
      refine wo_val (.cp (rRoute a) 6) rfl (pv_fa (fa_cp (c := 0) (off := 6) (i := 6) ti50 rfl ti34 rfl)) ?_
      refine wo_val (.sl 1 (List.map (rI .i64) a.Segments)) rfl (pv_load (ld_cp ti34 rfl)) ?_
      refine wo_val (.int .i64 (a.Segments.length : Int)) rfl (pv_len (len_sl ti34)) ?_
      refine wo_val (.int .i64 0) rfl pv_move ?_
      refine wo_nil ?_
      refine wr_block ?_
      refine wr_is [(0, (.yld y_ o_ g_)), (2, (.cp (rAirspace c) 0)), (23, (.sl 1 (List.map (rI .i64) a.Segments))), (24, (.int .i64 (a.Segments.length : Int))), (25, (.int .i64 0))] (.cons rfl (.cons rfl (.cons rfl (.cons rfl (.cons rfl .nil))))) ?_
      refine wf_eachS' (P := Try.prog) a.Segments (fun _ a1 => fun s => opening_legs_c1_b1 c b_ a1 s) (((fun s => .ok s)) : σ_ → R σ_)
        (fun j => fun s => fun (fr : Nat → AV) (h : AHeap) => ∃ (hh : AHeap), St_ s hh ∧ fr = frA [(0, (.yld y_ o_ g_)), (2, (.cp (rAirspace c) 0)), (23, (.sl 1 (List.map (rI .i64) a.Segments))), (24, (.int .i64 (a.Segments.length : Int))), (25, (.int .i64 (j : Int)))] ∧ hh = h) s_ ?_ ?_ ?_
      · exact ⟨_, hs_, rfl, rfl⟩
      · rintro j a1 ha1 W hW s fr h ⟨hh, vHs, rfl, rfl⟩
        refine wr_mod (m' := opening_legs_c1_b1 c b_ a1 s) rfl (wr_mod (opening_legs_c1_b1.eq_1 _ _ _ _) ?_)
        refine wr_seq ?_
        refine wr_region ?_
        refine wo_val (.bool (decide ((j : Int) < (a.Segments.length : Int)))) rfl (pv_bin rfl rfl rfl) ?_
        refine wo_nil ?_
        refine wr_seq ?_
        refine wr_lim (t := 23) (L := a.Segments) rfl fun hlim => ?_
        refine wr_condT rfl (Int.ofNat_lt.2 (lt_of_get ha1)) ?_
        refine wr_skip ?_
        refine wr_seq ?_
        refine wr_block ?_
        refine wr_seq ?_
        refine wr_region ?_
        refine wo_val (.cp [(.int .i64 a1)] 0) rfl (pv_ixa (ixa_nat ti34 ti3 rfl ha1)) ?_
        refine wo_val (.int .i64 a1) rfl (pv_load (ld_cp ti3 rfl)) ?_
        refine wo_val (.int .i64 a1) rfl pv_assign ?_
        refine wo_nil ?_
        refine wr_seq ?_
        refine wr_region ?_
        refine wo_val (.agg (rAirspace c)) rfl (pv_load (ld_cp ti31 rfl)) ?_
        refine wo_val (.int .i64 a1) rfl pv_move ?_
        refine of_call [(.agg (rAirspace c)), (.int .i64 a1)] rfl rfl rfl rfl ((cp_opening_minutes c a1) _) (fun v _ => wu_panY Try.func41 vHs) fun m _ => ?_
        refine wo_val (.sl 2 (List.map rSpan m)) rfl pv_assign ?_
        refine wo_nil ?_
        refine wr_seq ?_
        refine wr_draw hmix [[], [], [], [2], [], [2, 3, 4], [2, 3, 4, 5], [2, 3, 4, 5, 6], [], [8], [], [8, 9, 10], [8, 9, 10, 11], [8, 9, 10, 11, 12], [], [1, 2, 3, 4, 5, 6, 7, 8, 9, 10, 11, 12, 13, 14], [0, 1, 2, 3, 4, 5, 6, 7, 8, 9, 10, 11, 12, 13, 14, 15], [0, 1, 2, 3, 4, 5, 6, 7, 8, 9, 10, 11, 12, 13, 14, 15, 16]] [(false, 0), (false, 1), (false, 2), (false, 3), (false, 4), (false, 5), (false, 6), (false, 7), (false, 8), (false, 9), (false, 10), (false, 11), (false, 12), (false, 13), (false, 14), (false, 15), (true, 16), (false, 17)] (by kernel_rfl) ?_
        refine wp_val (.yld y_ o_ g_) rfl rfl pv_move ?_
        refine wp_val (.int .i64 a1) rfl rfl pv_move ?_
        refine wp_val (.cp (rAirspace c) 3) rfl rfl (pv_fa (fa_cp (c := 0) (off := 3) (i := 3) ti31 rfl ti25 rfl)) ?_
        refine wp_val (.sl 5 (List.map rSegment c.Segments)) rfl rfl (pv_load (ld_cp ti25 rfl)) ?_
        refine wp_val (.int .i64 a1) rfl rfl pv_move ?_
        refine op_idx fun a2 hz1 hx2 => ?_
        refine wp_val (.cp (rSegment a2) 0) rfl rfl (pv_ixa (ixa_sl ti25 ti59 rfl hz1 hx2)) ?_
        refine wp_val (.cp (rSegment a2) 2) rfl rfl (pv_fa (fa_cp (c := 0) (off := 2) (i := 2) ti59 rfl ti3 rfl)) ?_
        refine wp_val (.int .i64 a2.Volume) rfl rfl (pv_load (ld_cp ti3 rfl)) ?_
        refine wp_val (.cp (rAirspace c) 3) rfl rfl (pv_fa (fa_cp (c := 0) (off := 3) (i := 3) ti31 rfl ti25 rfl)) ?_
        refine wp_val (.sl 5 (List.map rSegment c.Segments)) rfl rfl (pv_load (ld_cp ti25 rfl)) ?_
        refine wp_val (.int .i64 a1) rfl rfl pv_move ?_
        refine wp_val (.cp (rSegment a2) 0) rfl rfl (pv_ixa (ixa_sl ti25 ti59 rfl hz1 hx2)) ?_
        refine wp_val (.cp (rSegment a2) 3) rfl rfl (pv_fa (fa_cp (c := 0) (off := 3) (i := 3) ti59 rfl ti3 rfl)) ?_
        refine wp_val (.int .i64 a2.Length) rfl rfl (pv_load (ld_cp ti3 rfl)) ?_
        refine wp_val (.sl 2 (List.map rSpan m)) rfl rfl pv_move ?_
        refine wp_val (.agg [(.int .i64 a1), (.int .i64 a2.Volume), (.int .i64 a2.Length), (.sl 2 (List.map rSpan m))]) rfl rfl (pv_build (bd_st ti52 pl52 rfl)) ?_
        refine wp_yield (b := b_ ({ Segment := a1, Volume := a2.Volume, Length := a2.Length, Minutes := m } : Leg)) rfl rfl rfl rfl vHs (hy_ ({ Segment := a1, Volume := a2.Volume, Length := a2.Length, Minutes := m } : Leg)) (hnp_ ({ Segment := a1, Volume := a2.Volume, Length := a2.Length, Minutes := m } : Leg) _) (fun _ => (pend_yes rfl (pend_yes rfl (pend_yes rfl (pend_yes rfl (pend_yes rfl (pend_yes rfl (pend_yes rfl (pend_yes rfl (pend_yes rfl (pend_yes rfl (pend_yes rfl (pend_yes rfl (pend_yes rfl (pend_yes rfl (pend_yes rfl (pend_yes rfl pend_nil))))))))))))))))) fun s1 hb2 hh1 vHs1 => ?_
        refine wp_val (.bool false) rfl rfl (pv_un rfl) ?_
        refine wp_nil ?_
        refine wr_cond false rfl ?_
        refine wr_skip ?_
        refine wr_inBlock ?_
        refine wr_region ?_
        refine wo_val (.int .i64 (IntKind.wrap .i64 ((j : Int) + 1))) rfl (pv_bin rfl rfl rfl) ?_
        refine wo_val (.int .i64 (IntKind.wrap .i64 ((j : Int) + 1))) rfl pv_move ?_
        refine wo_nil ?_
        refine wr_is [(0, (.yld y_ o_ g_)), (2, (.cp (rAirspace c) 0)), (23, (.sl 1 (List.map (rI .i64) a.Segments))), (24, (.int .i64 (a.Segments.length : Int))), (25, (.int .i64 ((j + 1 : Nat) : Int)))] (.cons rfl (.cons rfl (.cons rfl (.cons rfl (.cons (inc_ok (lt_of_get ha1) hlim) .nil))))) ?_
        refine wb_S ?_
        refine hW s1 _ _ ?_
        exact ⟨_, vHs1, rfl, rfl⟩
      · rintro s fr h ⟨hh, vHs, rfl, rfl⟩
        refine wr_seq ?_
        refine wr_region ?_
        refine wo_val (.bool (decide ((a.Segments.length : Int) < (a.Segments.length : Int)))) rfl (pv_bin rfl rfl rfl) ?_
        refine wo_nil ?_
        refine wr_seq ?_
        refine wr_condF rfl (Int.lt_irrefl _) ?_
        refine wr_exit rfl ?_
        exact wr_endY Try.func41 rfl vHs
  · refine wo_not (tj := 9) (b := true) rfl (congrArg AV.bool hb1) rfl rfl ?_
    refine wo_not (tj := 9) (b := true) rfl (congrArg AV.bool hb1) rfl rfl ?_
    refine wo_not (tj := 9) (b := true) rfl (congrArg AV.bool hb1) rfl rfl ?_
    refine wo_not (tj := 9) (b := true) rfl (congrArg AV.bool hb1) rfl rfl ?_
    refine wo_not (tj := 9) (b := true) rfl (congrArg AV.bool hb1) rfl rfl ?_
    refine wo_val (.bool true) rfl (pv_pick (t := true) (congrArg AV.bool hb1) rfl) ?_
    exact wo_is [(0, (.yld y_ o_ g_)), (1, (.cp [(.int .i64 b)] 0)), (2, (.cp (rAirspace c) 0)), (15, (.bool ((decide (b < 0)) || (decide (b ≥ (c.Routes.length : Int))))))] (.cons rfl (.cons rfl (.cons rfl (.cons (or_t hb1) .nil)))) hJ
  · refine wo_valg (tj := 9) (.int .i64 b) rfl (congrArg AV.bool hb1) rfl (pv_load (ld_cp ti3 rfl)) ?_
    refine wo_valg (tj := 9) (.cp (rAirspace c) 4) rfl (congrArg AV.bool hb1) rfl (pv_fa (fa_cp (c := 0) (off := 4) (i := 4) ti31 rfl ti26 rfl)) ?_
    refine wo_valg (tj := 9) (.sl 7 (List.map rRoute c.Routes)) rfl (congrArg AV.bool hb1) rfl (pv_load (ld_cp ti26 rfl)) ?_
    refine wo_valg (tj := 9) (.int .i64 (c.Routes.length : Int)) rfl (congrArg AV.bool hb1) rfl (pv_len (len_sl ti26)) ?_
    refine wo_valg (tj := 9) (.bool (decide (b ≥ (c.Routes.length : Int)))) rfl (congrArg AV.bool hb1) rfl (pv_bin rfl rfl rfl) ?_
    refine wo_val (.bool (decide (b ≥ (c.Routes.length : Int)))) rfl (pv_pick (t := false) (congrArg AV.bool hb1) rfl) ?_
    exact wo_is [(0, (.yld y_ o_ g_)), (1, (.cp [(.int .i64 b)] 0)), (2, (.cp (rAirspace c) 0)), (15, (.bool ((decide (b < 0)) || (decide (b ≥ (c.Routes.length : Int))))))] (.cons rfl (.cons rfl (.cons rfl (.cons (or_f hb1) .nil)))) hJ

theorem cdr_opening_Legs_c1 (a0 : AV) (h : AHeap) : ADefer Try.prog 30 [a0] .ret h (DAns (fun _ : Unit => h) .ret (.ok ())) := by
  refine cd_intro (n := 3) Try.func30 rfl (by decide) rfl rfl ?_ ⟨(), rfl⟩
  refine wr_in (wr_mod (m' := (opening_caught).bind fun _ =>   .ok ()) rfl ?_)
  refine wr_region ?_
  refine wo_recR rfl ?_
  refine of_call [.nili, a0] rfl rfl rfl rfl ((cp_opening_caught a0) _) (fun v hv => by unfold opening_caught at hv; cases hv) fun _ _ => ?_
  refine wo_nil ?_
  exact wr_endD Try.func30 rfl rfl rfl

theorem cdp_opening_Legs_c1_h86 (h0 : AHeap) (ids : List Nat) (hI : Ids h0 ids 1) (g0_ : Nat) (r0_ : List AV) (hr0_ : r0_.length = 1) : (∃ a, opening_Legs_c1_h86 = .ok a) → ADefer Try.prog 30 [(.ptr (ix ids 0) g0_ 0 0)] (.pan (.iface 86 (.agg [])) false) (hp h0 ids [some (.rows g0_ 1 [r0_])]) (DAns (fun p => hp h0 ids [some (.rows g0_ 1 [[(.int .i64 1)]])]) (.pan (.iface 86 (.agg [])) true) (opening_Legs_c1_h86)) := by
  refine cd_intro (n := 3) Try.func30 rfl (by decide) rfl rfl ?_
  refine wr_in (wr_mod (opening_Legs_c1_h86.eq_1) ?_)
  refine wr_region ?_
  refine wo_recP rfl ?_
  refine of_callG [0] hI rfl rfl (cg_opening_caught_2 ({} : T85) _ (ix ids 0) r0_ g0_ hr0_ (by exact hI.sub' rfl rfl)) rfl rfl rfl rfl rfl rfl (fun v hv => by unfold opening_caught_2 at hv; cases hv) ?_
  rintro _ _ _ _ ⟨rfl, rfl⟩
  refine wo_putH [0] [(some (.rows g0_ 1 [[(.int .i64 1)]]))] hI rfl rfl rfl rfl ?_
  refine wo_put1 ?_
  refine wo_nil ?_
  refine wr_hp [(some (.rows g0_ 1 [[(.int .i64 1)]]))] rfl ?_
  exact wr_endD (a := ()) Try.func30 rfl rfl rfl

theorem cp_opening_Legs (a : Airspace) (route : Int) : CP Try.prog 12 [(.agg (rAirspace a)), (.int .i64 route)] (opening_Legs a route) (fun (p : ((List Leg) × Int)) => AV.tup [(.sl 4 (List.map rLeg p.1)), (.int .i64 p.2)]) := by
  show CP _ _ _ ((opening_Legs_m a route).catch' (catchU 86 ((opening_Legs_c1_h86).bind fun _ => .ok ([], 1)) (fun _ => .bad))) _
  refine cpc_intro (n := 18) 8 Try.func12 rfl (by decide) rfl rfl fun h0 ids hI => ?_
  have hU : ∀ (v : PV) (fr : Nat → AV) (xs : List (Option AO)) (g0_ : Nat) (r0_ : List AV) (hl_ : xs.length = 8) (hr0_ : r0_.length = 1) (hy_ : xs.take 1 = [some (.rows g0_ 1 [r0_])]) (hq4_ : fr 4 = .emp) (hq5_ : fr 5 = .ptr (ix ids 0) g0_ 0 0), WU Try.prog 12 18 false (SpecC (fun (p : ((List Leg) × Int)) => AV.tup [(.sl 4 (List.map rLeg p.1)), (.int .i64 p.2)]) h0 (catchU 86 ((opening_Legs_c1_h86).bind fun _ => .ok ([], 1)) (fun _ => .bad))) (.pan v) (.pan v.av false) fr [⟨30, [.ptr (ix ids 0) g0_ 0 0]⟩] (hp h0 ids xs) .ret := by
    intro v fr xs g0_ r0_ hl_ hr0_ hy_ hq4_ hq5_
    refine wu_hU (t := 86) rfl (fun hv => ?_) (fun hne86 => ?_)
    · subst hv
      exact wu_catch (Hc := opening_Legs_c1_h86) (fin := fun _ => ([], 1)) (c := 1) (cells := fun p => [some (.rows g0_ 1 [[(.int .i64 1)]])]) (vs := fun p => [.emp, (.int .i64 1)]) Try.func12 hI hl_ rfl hy_ (by first | (rw [catchU_eq]; done) | (rw [catchU_eq]; rfl)) (fun hx => by have := cdp_opening_Legs_c1_h86 h0 (ids.take 1) (hI.take rfl) g0_ r0_ hr0_ hx; simp only [ix_take (c := 1) (j := 0) rfl] at this; exact this) (by intro w; simp [opening_Legs_c1_h86, opening_caught_2]) (fun p => (ares_tmp' hq4_ (ares_cell' hq5_ (ld_ptr' (hI.take rfl) (ix_take rfl) rfl rfl rfl ti36 rfl) ares_nil))) (fun p => (.tupL (.cons (.emp _) (.cons (.same _) .nil))))
    exact wu_hN (by rw [catchU_ne hne86])
  refine wr_in (wr_mod (opening_Legs_m.eq_1 _ _) ?_)
  refine wr_seq ?_
  refine wr_region ?_
  refine wo_box (v := (.agg (rAirspace a))) (j := 1) hI rfl rfl rfl rfl rfl rfl rfl fun g => ?_
  refine wo_val .emp rfl pv_assign ?_
  refine wo_alloc (j := 0) hI rfl rfl rfl rfl ti36 rfl fun g1 => ?_
  refine wo_nil ?_
  refine wr_hp [(some (.rows g1 1 [[(.int .i64 0)]])), (some (.rows g 8 [(rAirspace a)])), none, none, none, none, none, none] rfl ?_
  refine wr_seq ?_
  refine wr_region ?_
  refine wo_val (.func (.func 30) [] [(.ptr (ix ids 0) g1 0 0)]) rfl pv_func ?_
  refine wo_defer rfl rfl rfl ?_
  refine wo_star ?_
  refine wo_nil ?_
  refine wr_seq ?_
  refine wr_region ?_
  refine wo_alloc (j := 2) hI rfl rfl rfl rfl ti39 rfl fun g2 => ?_
  refine wo_nil ?_
  refine wr_hp [(some (.rows g1 1 [[(.int .i64 0)]])), (some (.rows g 8 [(rAirspace a)])), (some (.rows g2 1 [[.emp]])), none, none, none, none, none] rfl ?_
  refine wr_seq ?_
  refine wr_seq ?_
  refine wr_region ?_
  refine wo_val (.agg (rAirspace a)) rfl (pv_load (ld_ptr hI rfl rfl rfl ti31 rfl)) ?_
  refine wo_val (.int .i64 route) rfl pv_move ?_
  refine of_callG [3, 4] hI rfl rfl (cg_opening_legs_2 a route _ (ix ids 3) (ix ids 4) (by exact hI.sub' rfl rfl)) rfl rfl rfl rfl rfl rfl (fun v _ => wu_star (hU v _ _ _ _ rfl rfl rfl rfl rfl)) ?_
  rintro _ _ _ _ ⟨g3, g4, rfl, rfl⟩
  refine wo_putH [3, 4] [(some (.rows g1 1 [[(.int .i64 0)]])), (some (.rows g 8 [(rAirspace a)])), (some (.rows g2 1 [[.emp]])), (some (.rows g3 8 [(rAirspace a)])), (some (.rows g4 1 [[(.int .i64 route)]])), none, none, none] hI rfl rfl rfl rfl ?_
  refine wo_put1 ?_
  refine wo_nil ?_
  refine wr_hp [(some (.rows g1 1 [[(.int .i64 0)]])), (some (.rows g 8 [(rAirspace a)])), (some (.rows g2 1 [[.emp]])), (some (.rows g3 8 [(rAirspace a)])), (some (.rows g4 1 [[(.int .i64 route)]])), none, none, none] rfl ?_
  refine wr_block ?_
  refine wr_frz (h2 := hp h0 ids [(some (.rows g1 1 [[(.int .i64 0)]])), (some (.rows g 8 [(rAirspace a)])), (some (.rows g2 1 [[.emp]])), none, none, none, none, none]) [(4, .emp), (5, (.ptr (ix ids 0) g1 0 0)), (6, (.ptr (ix ids 2) g2 0 0)), (11, (.func (.func 41) [] [(.cp [(.int .i64 route)] 0), (.cp (rAirspace a) 0)]))] (Drops.sub (.keep (.keep (.keep (.drop (.drop (.keep (.keep (.keep .nil)))))))) hI.len) (.cons (.same _) (.cons (.same _) (.cons (.same _) (.cons (.funcL .nil (.cons (.ptrL (hI.at rfl rfl) (hI.at rfl rfl) rfl (lf_refl _)) (.cons (.ptrL (hI.at rfl rfl) (hI.at rfl rfl) rfl (lf_refl _)) .nil))) .nil)))) rfl rfl ?_
  refine wr_drop [(some (.rows g1 1 [[(.int .i64 0)]])), none, (some (.rows g2 1 [[.emp]])), none, none, none, none, none] hI rfl (.keep (.drop (.keep (.keep (.keep (.keep (.keep (.keep .nil)))))))) ?_
  refine wr_is [(4, .emp), (5, (.ptr (ix ids 0) g1 0 0)), (6, (.ptr (ix ids 2) g2 0 0)), (11, (.func (.func 41) [] [(.cp [(.int .i64 route)] 0), (.cp (rAirspace a) 0)]))] (.cons rfl (.cons rfl (.cons rfl (.cons rfl .nil)))) ?_
  refine wf_rangeFunc (P := Try.prog) 5 (fun (gL : Nat) (r_L : Loop) => fun l => fun (h1 : AHeap) => ∃ (v : AV), ∃ (g5 : Nat), OwnV v (ix ids 7) g5 l.length ∧ h1 = hp h0 ids [(some (.rows g1 1 [[(.int .i64 0)]])), none, (some (.rows g2 1 [[v]])), none, none, (some (.blk gL (.loop r_L))), none, (ownO v g5 4 (List.map rLeg l))] : Nat → Loop → (List Leg) → AHeap → Prop) rfl rfl hI rfl rfl rfl fun gL y_L r_L hl_L hy_L => ⟨?_, ?_, ?_, ?_⟩
  · refine cy_opening_legs_c1 route a _ _ _ _ _ (fun a1 => yok_intro hl_L (by decide) rfl hy_L ?_ ?_) (fun _ _ _ => R.np_ne _ _) _ _ ?_
    · rintro l _ ⟨v, g5, vH, rfl⟩
      exact hI.at rfl rfl
    · rintro lo_ l _ ⟨v, g5, vH, rfl⟩
      refine wr_np (wr_in (wr_mod (m' := opening_Legs_b1 a1 l) rfl (wr_mod (opening_Legs_b1.eq_1 _ _) ?_)))
      refine wr_frl [(12, (.agg (rLeg a1))), (4, .emp), (5, (.ptr (ix ids 0) g1 0 0)), (6, (.ptr (ix ids 2) g2 0 0)), (11, (.func (.func 41) [] [(.cp [(.int .i64 route)] 0), (.cp (rAirspace a) 0)]))] (frPut_frA _ _ _) ?_
      refine wr_region ?_
      refine wo_alloc (j := 6) hI rfl rfl rfl rfl ti52 rfl fun g6 => ?_
      refine wo_store (st_ptr hI rfl rfl rfl rfl ti52 rfl rfl rfl rfl rfl) ?_
      refine wo_nil ?_
      refine wr_hp [(some (.rows g1 1 [[(.int .i64 0)]])), none, (some (.rows g2 1 [[v]])), none, none, (some (.blk gL (.loop r_L))), (some (.rows g6 4 [(rLeg a1)])), (ownO v g5 4 (List.map rLeg l))] rfl ?_
      refine wr_beginRoundH hI rfl rfl rfl hl_L.ready ?_
      refine wr_hp [(some (.rows g1 1 [[(.int .i64 0)]])), none, (some (.rows g2 1 [[v]])), none, none, (some (.blk gL (.loop { r_L with state := .busy }))), (some (.rows g6 4 [(rLeg a1)])), (ownO v g5 4 (List.map rLeg l))] rfl ?_
      refine wr_block ?_
      refine wr_region ?_
      refine wo_val v rfl (pv_load (ld_ptr hI rfl rfl rfl ti39 rfl)) ?_
      refine wo_val (.agg (rLeg a1)) rfl (pv_load (ld_ptr hI rfl rfl rfl ti52 rfl)) ?_
      refine wo_bsC (e := rLeg) (L := [a1]) (st := 4) (rows := [[(.int .i64 a1.Segment), (.int .i64 a1.Volume), (.int .i64 a1.Length), (.sl 2 (List.map rSpan a1.Minutes))]]) rfl ti39 ti52 rfl rfl rfl rfl rfl (.cons (RowSim.refl _) .nil) (fun x => ok_Leg x) rfl rfl ?_
      refine of_need fun hl => ?_
      refine wo_append (e := rLeg) (L := l) (L2 := [a1]) (v := v) (g := g5) (st := 4) (j := 7) hI rfl rfl rfl rfl vH rfl (src_sl rfl) ti39 ti39 rfl ti52 rfl rfl rfl hl fun v1 g7 vH1 => ?_
      refine wo_store (st_ptrO vH1 hI rfl rfl rfl rfl ti39 rfl rfl rfl) ?_
      refine wo_nil ?_
      refine wr_hp [(some (.rows g1 1 [[(.int .i64 0)]])), none, (some (.rows g2 1 [[v1]])), none, none, (some (.blk gL (.loop { r_L with state := .busy }))), (some (.rows g6 4 [(rLeg a1)])), (ownO v1 g7 4 (List.map rLeg (l ++ [a1])))] rfl ?_
      refine wr_inBlock ?_
      refine wr_drop [(some (.rows g1 1 [[(.int .i64 0)]])), none, (some (.rows g2 1 [[v1]])), none, none, (some (.blk gL (.loop { r_L with state := .busy }))), none, (ownO v1 g7 4 (List.map rLeg (l ++ [a1])))] hI rfl (.keep (.keep (.keep (.keep (.keep (.keep (.drop (.keep .nil)))))))) ?_
      exact wr_endBH (s := (l ++ [a1])) (jL := 5) hI rfl rfl rfl ⟨v1, g7, vH1, rfl⟩
    · exact ⟨.emp, 0, .nil, rfl⟩
  · rintro l _ ⟨v, g5, vH, rfl⟩
    exact hI.at rfl rfl
  · rintro l _ _ ⟨v, g5, vH, rfl⟩
    refine wr_upd [(some (.rows g1 1 [[(.int .i64 0)]])), none, (some (.rows g2 1 [[v]])), none, none, none, none, (ownO v g5 4 (List.map rLeg l))] hI rfl rfl rfl ?_
    refine wr_inBlock ?_
    refine wr_seq ?_
    refine wr_region ?_
    refine wo_val v rfl (pv_load (ld_ptr hI rfl rfl rfl ti39 rfl)) ?_
    refine wo_val v rfl pv_assign ?_
    refine wo_store (st_ptr hI rfl rfl rfl rfl ti36 rfl rfl rfl rfl rfl) ?_
    refine wo_nil ?_
    exact wr_retU (wu_star (wu_retC (a := (l, 0)) (vs := [v, (.int .i64 0)]) Try.func12 hI (cdr_opening_Legs_c1 _ _) (ares_tmp (ares_cell (ld_ptr hI rfl rfl rfl ti36 rfl) ares_nil)) (.tupL (.cons (own_fz vH (hI.at rfl rfl) (hI.out rfl) (fun x => ok_Leg x)) (.cons (.same _) .nil)))))
  · rintro v2 _ l _ ⟨v, g5, vH, rfl⟩
    refine wu_upd [(some (.rows g1 1 [[(.int .i64 0)]])), none, (some (.rows g2 1 [[v]])), none, none, none, none, (ownO v g5 4 (List.map rLeg l))] hI rfl rfl rfl ?_
    exact wu_star (hU v2 _ _ _ _ rfl rfl rfl rfl rfl)

theorem cg_maps_Keys_34 (m : (List (Int × Bool))) (h0 : AHeap) (o0 : Nat) (g : Nat) (hI0 : Ids h0 [o0] 1) : maps_Keys_34 m ≠ .bad → ACalls Try.prog 34 [.map o0 g] (hp h0 [o0] [some (.mp g (mE (fun x : Int => (AV.int .i64 x)) (fun x : Bool => (AV.bool x)) m))]) (AnsG (fun a_ v h' => v = (.func (.func 44) [] [(.cp0 [.map o0 g])]) ∧ h' = hp h0 [o0] [some (.mp g (mE (fun x : Int => (AV.int .i64 x)) (fun x : Bool => (AV.bool x)) m))]) h0 (maps_Keys_34 m)) := fun _ =>
  (keys_calls (.mk Try.func34 rfl (by decide)) Try.maps_Keys_34).mono (by rintro r h' ⟨rfl, rfl⟩; exact ⟨_, rfl, rfl, rfl⟩)

theorem cg_slices_Sorted_33 (m : (List (Int × Bool))) (h0 : AHeap) (o0 : Nat) (g : Nat) (hI0 : Ids h0 [o0] 1) : slices_Sorted_33 m ≠ .bad → ACalls Try.prog 33 [.func (.func 44) [] [(.cp0 [.map o0 g])]] (hp h0 [o0] [some (.mp g (mE (fun x : Int => (AV.int .i64 x)) (fun x : Bool => (AV.bool x)) m))]) (AnsG (fun a_ v h' => v = (.sl 1 (List.map (rI .i64) a_)) ∧ h' = hp h0 [o0] [some (.mp g (mE (fun x : Int => (AV.int .i64 x)) (fun x : Bool => (AV.bool x)) m))]) h0 (slices_Sorted_33 m)) :=
  sorted_calls hI0 (.mk Try.func33 rfl (by decide)) Try.underlying3 Try.sorted_keys_33_34

theorem cdr_opening_Passable_c1 (a0 : AV) (h : AHeap) : ADefer Try.prog 32 [a0] .ret h (DAns (fun _ : Unit => h) .ret (.ok ())) := by
  refine cd_intro (n := 3) Try.func32 rfl (by decide) rfl rfl ?_ ⟨(), rfl⟩
  refine wr_in (wr_mod (m' := (opening_caught).bind fun _ =>   .ok ()) rfl ?_)
  refine wr_region ?_
  refine wo_recR rfl ?_
  refine of_call [.nili, a0] rfl rfl rfl rfl ((cp_opening_caught a0) _) (fun v hv => by unfold opening_caught at hv; cases hv) fun _ _ => ?_
  refine wo_nil ?_
  exact wr_endD Try.func32 rfl rfl rfl

theorem cdp_opening_Passable_c1_h86 (h0 : AHeap) (ids : List Nat) (hI : Ids h0 ids 1) (g0_ : Nat) (r0_ : List AV) (hr0_ : r0_.length = 1) : (∃ a, opening_Passable_c1_h86 = .ok a) → ADefer Try.prog 32 [(.ptr (ix ids 0) g0_ 0 0)] (.pan (.iface 86 (.agg [])) false) (hp h0 ids [some (.rows g0_ 1 [r0_])]) (DAns (fun p => hp h0 ids [some (.rows g0_ 1 [[(.int .i64 1)]])]) (.pan (.iface 86 (.agg [])) true) (opening_Passable_c1_h86)) := by
  refine cd_intro (n := 3) Try.func32 rfl (by decide) rfl rfl ?_
  refine wr_in (wr_mod (opening_Passable_c1_h86.eq_1) ?_)
  refine wr_region ?_
  refine wo_recP rfl ?_
  refine of_callG [0] hI rfl rfl (cg_opening_caught_2 ({} : T85) _ (ix ids 0) r0_ g0_ hr0_ (by exact hI.sub' rfl rfl)) rfl rfl rfl rfl rfl rfl (fun v hv => by unfold opening_caught_2 at hv; cases hv) ?_
  rintro _ _ _ _ ⟨rfl, rfl⟩
  refine wo_putH [0] [(some (.rows g0_ 1 [[(.int .i64 1)]]))] hI rfl rfl rfl rfl ?_
  refine wo_put1 ?_
  refine wo_nil ?_
  refine wr_hp [(some (.rows g0_ 1 [[(.int .i64 1)]]))] rfl ?_
  exact wr_endD (a := ()) Try.func32 rfl rfl rfl

theorem cp_opening_Passable (a : Airspace) : CP Try.prog 16 [(.agg (rAirspace a))] (opening_Passable a) (fun (p : ((List Int) × Int)) => AV.tup [(.sl 1 (List.map (rI .i64) p.1)), (.int .i64 p.2)]) := by
  show CP _ _ _ ((opening_Passable_m a).catch' (catchU 86 ((opening_Passable_c1_h86).bind fun _ => .ok ([], 1)) (fun _ => .bad))) _
  refine cpc_intro (n := 29) 4 Try.func16 rfl (by decide) rfl rfl fun h0 ids hI => ?_
  have hU : ∀ (v : PV) (fr : Nat → AV) (xs : List (Option AO)) (g0_ : Nat) (r0_ : List AV) (hl_ : xs.length = 4) (hr0_ : r0_.length = 1) (hy_ : xs.take 1 = [some (.rows g0_ 1 [r0_])]) (hq2_ : fr 2 = .emp) (hq3_ : fr 3 = .ptr (ix ids 0) g0_ 0 0), WU Try.prog 16 29 false (SpecC (fun (p : ((List Int) × Int)) => AV.tup [(.sl 1 (List.map (rI .i64) p.1)), (.int .i64 p.2)]) h0 (catchU 86 ((opening_Passable_c1_h86).bind fun _ => .ok ([], 1)) (fun _ => .bad))) (.pan v) (.pan v.av false) fr [⟨32, [.ptr (ix ids 0) g0_ 0 0]⟩] (hp h0 ids xs) .ret := by
    intro v fr xs g0_ r0_ hl_ hr0_ hy_ hq2_ hq3_
    refine wu_hU (t := 86) rfl (fun hv => ?_) (fun hne86 => ?_)
    · subst hv
      exact wu_catch (Hc := opening_Passable_c1_h86) (fin := fun _ => ([], 1)) (c := 1) (cells := fun p => [some (.rows g0_ 1 [[(.int .i64 1)]])]) (vs := fun p => [.emp, (.int .i64 1)]) Try.func16 hI hl_ rfl hy_ (by first | (rw [catchU_eq]; done) | (rw [catchU_eq]; rfl)) (fun hx => by have := cdp_opening_Passable_c1_h86 h0 (ids.take 1) (hI.take rfl) g0_ r0_ hr0_ hx; simp only [ix_take (c := 1) (j := 0) rfl] at this; exact this) (by intro w; simp [opening_Passable_c1_h86, opening_caught_2]) (fun p => (ares_tmp' hq2_ (ares_cell' hq3_ (ld_ptr' (hI.take rfl) (ix_take rfl) rfl rfl rfl ti36 rfl) ares_nil))) (fun p => (.tupL (.cons (.emp _) (.cons (.same _) .nil))))
    exact wu_hN (by rw [catchU_ne hne86])
  refine wr_in (wr_mod (opening_Passable_m.eq_1 _) ?_)
  refine wr_seq ?_
  refine wr_region ?_
  refine wo_box (v := (.agg (rAirspace a))) (j := 1) hI rfl rfl rfl rfl rfl rfl rfl fun g => ?_
  refine wo_val .emp rfl pv_assign ?_
  refine wo_alloc (j := 0) hI rfl rfl rfl rfl ti36 rfl fun g1 => ?_
  refine wo_nil ?_
  refine wr_hp [(some (.rows g1 1 [[(.int .i64 0)]])), (some (.rows g 8 [(rAirspace a)])), none, none] rfl ?_
  refine wr_seq ?_
  refine wr_region ?_
  refine wo_val (.func (.func 32) [] [(.ptr (ix ids 0) g1 0 0)]) rfl pv_func ?_
  refine wo_defer rfl rfl rfl ?_
  refine wo_nil ?_
  refine wr_seq ?_
  refine wr_region ?_
  refine wo_makeMap (j := 2) hI rfl rfl rfl rfl fun g2 => ?_
  refine wo_val (.map (ix ids 2) g2) rfl pv_assign ?_
  refine wo_nil ?_
  refine wr_hp [(some (.rows g1 1 [[(.int .i64 0)]])), (some (.rows g 8 [(rAirspace a)])), (some (.mp g2 (mE (fun x : Int => (AV.int .i64 x)) (fun x : Bool => (AV.bool x)) []))), none] rfl ?_
  refine wr_seq ?_
  refine wr_seq ?_
  refine wr_region ?_
  refine wo_val (.ptr (ix ids 1) g 0 3) rfl (pv_fa (fa_ptr (c := 0) (off := 3) (i := 3) ti31 rfl ti25 rfl)) ?_
  refine wo_val (.sl 5 (List.map rSegment a.Segments)) rfl (pv_load (ld_ptr hI rfl rfl rfl ti25 rfl)) ?_
  refine wo_val (.int .i64 (a.Segments.length : Int)) rfl (pv_len (len_sl ti25)) ?_
  refine wo_val (.int .i64 0) rfl pv_move ?_
  refine wo_nil ?_
  refine wr_block ?_
  refine wr_is [(1, (.ptr (ix ids 1) g 0 0)), (2, .emp), (3, (.ptr (ix ids 0) g1 0 0)), (4, (.map (ix ids 2) g2)), (10, (.sl 5 (List.map rSegment a.Segments))), (11, (.int .i64 (a.Segments.length : Int))), (12, (.int .i64 0))] (.cons rfl (.cons rfl (.cons rfl (.cons rfl (.cons rfl (.cons rfl (.cons rfl .nil))))))) ?_
  refine wf_eachS' (P := Try.prog) a.Segments (fun j a1 => fun m => opening_Passable_b1 a j a1 m) (((fun m => (maps_Keys_34 m).bind fun _ =>
  (slices_Sorted_33 m).bind fun l =>
  .ok (l, 0))) : (List (Int × Bool)) → R ((List Int) × Int))
    (fun j => fun m => fun (fr : Nat → AV) (h : AHeap) => fr = frA [(1, (.ptr (ix ids 1) g 0 0)), (2, .emp), (3, (.ptr (ix ids 0) g1 0 0)), (4, (.map (ix ids 2) g2)), (10, (.sl 5 (List.map rSegment a.Segments))), (11, (.int .i64 (a.Segments.length : Int))), (12, (.int .i64 (j : Int)))] ∧ h = hp h0 ids [(some (.rows g1 1 [[(.int .i64 0)]])), (some (.rows g 8 [(rAirspace a)])), (some (.mp g2 (mE (fun x : Int => (AV.int .i64 x)) (fun x : Bool => (AV.bool x)) m))), none]) [] ?_ ?_ ?_
  · exact ⟨rfl, rfl⟩
  · rintro j a1 ha1 W hW m fr h ⟨rfl, rfl⟩
    refine wr_mod (m' := opening_Passable_b1 a j a1 m) rfl (wr_mod (opening_Passable_b1.eq_1 _ _ _ _) ?_)
    refine wr_seq ?_
    refine wr_region ?_
    refine wo_val (.bool (decide ((j : Int) < (a.Segments.length : Int)))) rfl (pv_bin rfl rfl rfl) ?_
    refine wo_nil ?_
    refine wr_seq ?_
    refine wr_lim (t := 10) (L := a.Segments) rfl fun hlim => ?_
    refine wr_condT rfl (Int.ofNat_lt.2 (lt_of_get ha1)) ?_
    refine wr_skip ?_
    refine wr_seq ?_
    refine wr_block ?_
    refine wr_seq ?_
    refine wr_region ?_
    refine wo_val (.int .i64 (j : Int)) rfl pv_move ?_
    refine wo_val (.cp (rSegment a1) 0) rfl (pv_ixa (ixa_nat ti25 ti59 rfl ha1)) ?_
    refine wo_val (.agg (rSegment a1)) rfl (pv_load (ld_cp ti59 rfl)) ?_
    refine wo_alloc (j := 3) hI rfl rfl rfl rfl ti59 rfl fun g3 => ?_
    refine wo_val (.int .i64 (j : Int)) rfl pv_assign ?_
    refine wo_store (st_ptr hI rfl rfl rfl rfl ti59 rfl rfl rfl rfl rfl) ?_
    refine wo_nil ?_
    refine wr_hp [(some (.rows g1 1 [[(.int .i64 0)]])), (some (.rows g 8 [(rAirspace a)])), (some (.mp g2 (mE (fun x : Int => (AV.int .i64 x)) (fun x : Bool => (AV.bool x)) m))), (some (.rows g3 5 [(rSegment a1)]))] rfl ?_
    refine wr_seq ?_
    refine wr_region ?_
    refine wo_val (.agg (rAirspace a)) rfl (pv_load (ld_ptr hI rfl rfl rfl ti31 rfl)) ?_
    refine wo_val (.int .i64 (j : Int)) rfl pv_move ?_
    refine of_call [(.agg (rAirspace a)), (.int .i64 (j : Int))] rfl rfl rfl rfl ((cp_opening_minutes a (j : Int)) _) (fun v _ => hU v _ _ _ _ rfl rfl rfl rfl rfl) fun r _ => ?_
    refine wo_val (.int .i64 (r.length : Int)) rfl (pv_len (len_sl ti35)) ?_
    refine wo_val (.bool (decide ((r.length : Int) > 0))) rfl (pv_bin rfl rfl rfl) ?_
    refine wo_nil ?_
    refine wf_ite rfl (fun hc => ?_) (fun hc => ?_)
    · refine wr_region ?_
      refine wo_val (.map (ix ids 2) g2) rfl pv_move ?_
      refine wo_val (.ptr (ix ids 3) g3 0 2) rfl (pv_fa (fa_ptr (c := 0) (off := 2) (i := 2) ti59 rfl ti3 rfl)) ?_
      refine wo_val (.int .i64 a1.Volume) rfl (pv_load (ld_ptr hI rfl rfl rfl ti3 rfl)) ?_
      refine wo_mapUpdate (j := 2) (eK := (fun x : Int => (AV.int .i64 x))) (eV := (fun x : Bool => (AV.bool x))) (M := m) (ky := a1.Volume) (w := true) hI rfl rfl rfl rfl rfl rfl ti77 ti3 keyE_int ?_
      refine wo_nil ?_
      refine wr_hp [(some (.rows g1 1 [[(.int .i64 0)]])), (some (.rows g 8 [(rAirspace a)])), (some (.mp g2 (mE (fun x : Int => (AV.int .i64 x)) (fun x : Bool => (AV.bool x)) (mput m a1.Volume true)))), (some (.rows g3 5 [(rSegment a1)]))] rfl ?_
      refine wr_inBlock ?_
      refine wr_region ?_
      refine wo_val (.int .i64 (IntKind.wrap .i64 ((j : Int) + 1))) rfl (pv_bin rfl rfl rfl) ?_
      refine wo_val (.int .i64 (IntKind.wrap .i64 ((j : Int) + 1))) rfl pv_move ?_
      refine wo_nil ?_
      refine wr_drop [(some (.rows g1 1 [[(.int .i64 0)]])), (some (.rows g 8 [(rAirspace a)])), (some (.mp g2 (mE (fun x : Int => (AV.int .i64 x)) (fun x : Bool => (AV.bool x)) (mput m a1.Volume true)))), none] hI rfl (.keep (.keep (.keep (.drop .nil)))) ?_
      refine wr_is [(1, (.ptr (ix ids 1) g 0 0)), (2, .emp), (3, (.ptr (ix ids 0) g1 0 0)), (4, (.map (ix ids 2) g2)), (10, (.sl 5 (List.map rSegment a.Segments))), (11, (.int .i64 (a.Segments.length : Int))), (12, (.int .i64 ((j + 1 : Nat) : Int)))] (.cons rfl (.cons rfl (.cons rfl (.cons rfl (.cons rfl (.cons rfl (.cons (inc_ok (lt_of_get ha1) hlim) .nil))))))) ?_
      refine wb_S ?_
      refine hW (mput m a1.Volume true) _ _ ?_
      exact ⟨rfl, rfl⟩
    · refine wr_skip ?_
      refine wr_inBlock ?_
      refine wr_region ?_
      refine wo_val (.int .i64 (IntKind.wrap .i64 ((j : Int) + 1))) rfl (pv_bin rfl rfl rfl) ?_
      refine wo_val (.int .i64 (IntKind.wrap .i64 ((j : Int) + 1))) rfl pv_move ?_
      refine wo_nil ?_
      refine wr_drop [(some (.rows g1 1 [[(.int .i64 0)]])), (some (.rows g 8 [(rAirspace a)])), (some (.mp g2 (mE (fun x : Int => (AV.int .i64 x)) (fun x : Bool => (AV.bool x)) m))), none] hI rfl (.keep (.keep (.keep (.drop .nil)))) ?_
      refine wr_is [(1, (.ptr (ix ids 1) g 0 0)), (2, .emp), (3, (.ptr (ix ids 0) g1 0 0)), (4, (.map (ix ids 2) g2)), (10, (.sl 5 (List.map rSegment a.Segments))), (11, (.int .i64 (a.Segments.length : Int))), (12, (.int .i64 ((j + 1 : Nat) : Int)))] (.cons rfl (.cons rfl (.cons rfl (.cons rfl (.cons rfl (.cons rfl (.cons (inc_ok (lt_of_get ha1) hlim) .nil))))))) ?_
      refine wb_S ?_
      refine hW m _ _ ?_
      exact ⟨rfl, rfl⟩
  · rintro m fr h ⟨rfl, rfl⟩
    refine wr_seq ?_
    refine wr_region ?_
    refine wo_val (.bool (decide ((a.Segments.length : Int) < (a.Segments.length : Int)))) rfl (pv_bin rfl rfl rfl) ?_
    refine wo_nil ?_
    refine wr_seq ?_
    refine wr_condF rfl (Int.lt_irrefl _) ?_
    refine wr_exit rfl ?_
    refine wr_seq ?_
    refine wr_region ?_
    refine wo_val (.map (ix ids 2) g2) rfl pv_move ?_
    refine of_callG [2] hI rfl rfl (cg_maps_Keys_34 m _ (ix ids 2) g2 (by exact hI.sub' rfl rfl)) rfl rfl rfl rfl rfl rfl (fun v _ => hU v _ _ _ _ rfl rfl rfl rfl rfl) ?_
    rintro _ _ _ _ ⟨rfl, rfl⟩
    refine wo_putH [2] [(some (.rows g1 1 [[(.int .i64 0)]])), (some (.rows g 8 [(rAirspace a)])), (some (.mp g2 (mE (fun x : Int => (AV.int .i64 x)) (fun x : Bool => (AV.bool x)) m))), none] hI rfl rfl rfl rfl ?_
    refine wo_put1 ?_
    refine of_callG [2] hI rfl rfl (cg_slices_Sorted_33 m _ (ix ids 2) g2 (by exact hI.sub' rfl rfl)) rfl rfl rfl rfl rfl rfl (fun v _ => hU v _ _ _ _ rfl rfl rfl rfl rfl) ?_
    rintro l _ _ _ ⟨rfl, rfl⟩
    refine wo_putH [2] [(some (.rows g1 1 [[(.int .i64 0)]])), (some (.rows g 8 [(rAirspace a)])), (some (.mp g2 (mE (fun x : Int => (AV.int .i64 x)) (fun x : Bool => (AV.bool x)) m))), none] hI rfl rfl rfl rfl ?_
    refine wo_put1 ?_
    refine wo_val (.sl 1 (List.map (rI .i64) l)) rfl pv_assign ?_
    refine wo_store (st_ptr hI rfl rfl rfl rfl ti36 rfl rfl rfl rfl rfl) ?_
    refine wo_nil ?_
    exact wr_retC (a := (l, 0)) (vs := [(.sl 1 (List.map (rI .i64) l)), (.int .i64 0)]) Try.func16 hI (cdr_opening_Passable_c1 _ _) (ares_tmp (ares_cell (ld_ptr hI rfl rfl rfl ti36 rfl) ares_nil)) (.tupL (.cons (.same _) (.cons (.same _) .nil)))

theorem cdr_opening_Blocked_c1 (a0 : AV) (h : AHeap) : ADefer Try.prog 35 [a0] .ret h (DAns (fun _ : Unit => h) .ret (.ok ())) := by
  refine cd_intro (n := 3) Try.func35 rfl (by decide) rfl rfl ?_ ⟨(), rfl⟩
  refine wr_in (wr_mod (m' := (opening_caught).bind fun _ =>   .ok ()) rfl ?_)
  refine wr_region ?_
  refine wo_recR rfl ?_
  refine of_call [.nili, a0] rfl rfl rfl rfl ((cp_opening_caught a0) _) (fun v hv => by unfold opening_caught at hv; cases hv) fun _ _ => ?_
  refine wo_nil ?_
  exact wr_endD Try.func35 rfl rfl rfl

theorem cdp_opening_Blocked_c1_h86 (h0 : AHeap) (ids : List Nat) (hI : Ids h0 ids 1) (g0_ : Nat) (r0_ : List AV) (hr0_ : r0_.length = 1) : (∃ a, opening_Blocked_c1_h86 = .ok a) → ADefer Try.prog 35 [(.ptr (ix ids 0) g0_ 0 0)] (.pan (.iface 86 (.agg [])) false) (hp h0 ids [some (.rows g0_ 1 [r0_])]) (DAns (fun p => hp h0 ids [some (.rows g0_ 1 [[(.int .i64 1)]])]) (.pan (.iface 86 (.agg [])) true) (opening_Blocked_c1_h86)) := by
  refine cd_intro (n := 3) Try.func35 rfl (by decide) rfl rfl ?_
  refine wr_in (wr_mod (opening_Blocked_c1_h86.eq_1) ?_)
  refine wr_region ?_
  refine wo_recP rfl ?_
  refine of_callG [0] hI rfl rfl (cg_opening_caught_2 ({} : T85) _ (ix ids 0) r0_ g0_ hr0_ (by exact hI.sub' rfl rfl)) rfl rfl rfl rfl rfl rfl (fun v hv => by unfold opening_caught_2 at hv; cases hv) ?_
  rintro _ _ _ _ ⟨rfl, rfl⟩
  refine wo_putH [0] [(some (.rows g0_ 1 [[(.int .i64 1)]]))] hI rfl rfl rfl rfl ?_
  refine wo_put1 ?_
  refine wo_nil ?_
  refine wr_hp [(some (.rows g0_ 1 [[(.int .i64 1)]]))] rfl ?_
  exact wr_endD (a := ()) Try.func35 rfl rfl rfl

theorem cp_opening_Blocked (a : Airspace) : CP Try.prog 18 [(.agg (rAirspace a))] (opening_Blocked a) (fun (p : ((List Int) × Int)) => AV.tup [(.sl 1 (List.map (rI .i64) p.1)), (.int .i64 p.2)]) := by
  show CP _ _ _ ((opening_Blocked_m a).catch' (catchU 86 ((opening_Blocked_c1_h86).bind fun _ => .ok ([], 1)) (fun _ => .bad))) _
  refine cpc_intro (n := 33) 8 Try.func18 rfl (by decide) rfl rfl fun h0 ids hI => ?_
  have hU : ∀ (v : PV) (fr : Nat → AV) (xs : List (Option AO)) (g0_ : Nat) (r0_ : List AV) (hl_ : xs.length = 8) (hr0_ : r0_.length = 1) (hy_ : xs.take 1 = [some (.rows g0_ 1 [r0_])]) (hq2_ : fr 2 = .emp) (hq3_ : fr 3 = .ptr (ix ids 0) g0_ 0 0), WU Try.prog 18 33 false (SpecC (fun (p : ((List Int) × Int)) => AV.tup [(.sl 1 (List.map (rI .i64) p.1)), (.int .i64 p.2)]) h0 (catchU 86 ((opening_Blocked_c1_h86).bind fun _ => .ok ([], 1)) (fun _ => .bad))) (.pan v) (.pan v.av false) fr [⟨35, [.ptr (ix ids 0) g0_ 0 0]⟩] (hp h0 ids xs) .ret := by
    intro v fr xs g0_ r0_ hl_ hr0_ hy_ hq2_ hq3_
    refine wu_hU (t := 86) rfl (fun hv => ?_) (fun hne86 => ?_)
    · subst hv
      exact wu_catch (Hc := opening_Blocked_c1_h86) (fin := fun _ => ([], 1)) (c := 1) (cells := fun p => [some (.rows g0_ 1 [[(.int .i64 1)]])]) (vs := fun p => [.emp, (.int .i64 1)]) Try.func18 hI hl_ rfl hy_ (by first | (rw [catchU_eq]; done) | (rw [catchU_eq]; rfl)) (fun hx => by have := cdp_opening_Blocked_c1_h86 h0 (ids.take 1) (hI.take rfl) g0_ r0_ hr0_ hx; simp only [ix_take (c := 1) (j := 0) rfl] at this; exact this) (by intro w; simp [opening_Blocked_c1_h86, opening_caught_2]) (fun p => (ares_tmp' hq2_ (ares_cell' hq3_ (ld_ptr' (hI.take rfl) (ix_take rfl) rfl rfl rfl ti36 rfl) ares_nil))) (fun p => (.tupL (.cons (.emp _) (.cons (.same _) .nil))))
    exact wu_hN (by rw [catchU_ne hne86])
  refine wr_in (wr_mod (opening_Blocked_m.eq_1 _) ?_)
  refine wr_seq ?_
  refine wr_region ?_
  refine wo_box (v := (.agg (rAirspace a))) (j := 1) hI rfl rfl rfl rfl rfl rfl rfl fun g => ?_
  refine wo_val .emp rfl pv_assign ?_
  refine wo_alloc (j := 0) hI rfl rfl rfl rfl ti36 rfl fun g1 => ?_
  refine wo_nil ?_
  refine wr_hp [(some (.rows g1 1 [[(.int .i64 0)]])), (some (.rows g 8 [(rAirspace a)])), none, none, none, none, none, none] rfl ?_
  refine wr_seq ?_
  refine wr_region ?_
  refine wo_val (.func (.func 35) [] [(.ptr (ix ids 0) g1 0 0)]) rfl pv_func ?_
  refine wo_defer rfl rfl rfl ?_
  refine wo_star ?_
  refine wo_nil ?_
  refine wr_seq ?_
  refine wr_region ?_
  refine wo_val .emp rfl pv_assign ?_
  refine wo_nil ?_
  refine wr_seq ?_
  refine wr_seq ?_
  refine wr_region ?_
  refine wo_val (.ptr (ix ids 1) g 0 4) rfl (pv_fa (fa_ptr (c := 0) (off := 4) (i := 4) ti31 rfl ti26 rfl)) ?_
  refine wo_val (.sl 7 (List.map rRoute a.Routes)) rfl (pv_load (ld_ptr hI rfl rfl rfl ti26 rfl)) ?_
  refine wo_val (.int .i64 (a.Routes.length : Int)) rfl (pv_len (len_sl ti26)) ?_
  refine wo_val (.int .i64 0) rfl pv_move ?_
  refine wo_nil ?_
  refine wr_block ?_
  refine wr_lim (t := 10) (L := a.Routes) rfl fun hlim => ?_
  refine wr_is [(1, (.ptr (ix ids 1) g 0 0)), (2, .emp), (3, (.ptr (ix ids 0) g1 0 0)), (4, .emp), (11, (.int .i64 (a.Routes.length : Int))), (12, (.int .i64 0))] (.cons rfl (.cons rfl (.cons rfl (.cons rfl (.cons rfl (.cons rfl .nil)))))) ?_
  refine wf_eachS' (P := Try.prog) a.Routes (fun j _ => fun x1 => opening_Blocked_b2 a j x1) (((fun x1 => .ok (x1, 0))) : (List Int) → R ((List Int) × Int))
    (fun j => fun x1 => fun (fr : Nat → AV) (h : AHeap) => ∃ (v : AV), ∃ (g2 : Nat), OwnV v (ix ids 7) g2 x1.length ∧ fr = frA [(1, (.ptr (ix ids 1) g 0 0)), (2, .emp), (3, (.ptr (ix ids 0) g1 0 0)), (4, v), (11, (.int .i64 (a.Routes.length : Int))), (12, (.int .i64 (j : Int)))] ∧ h = hp h0 ids [(some (.rows g1 1 [[(.int .i64 0)]])), (some (.rows g 8 [(rAirspace a)])), none, none, none, none, none, (ownO v g2 1 (List.map (rI .i64) x1))]) [] ?_ ?_ ?_
  · exact ⟨.emp, 0, .nil, rfl, rfl⟩
  · rintro j a1 ha1 W hW x1 fr h ⟨v, g2, vH, rfl, rfl⟩
    refine wr_mod (m' := opening_Blocked_b2 a j x1) rfl (wr_mod (opening_Blocked_b2.eq_1 _ _ _) ?_)
    refine wr_seq ?_
    refine wr_region ?_
    refine wo_val (.bool (decide ((j : Int) < (a.Routes.length : Int)))) rfl (pv_bin rfl rfl rfl) ?_
    refine wo_nil ?_
    refine wr_seq ?_
    refine wr_condT rfl (Int.ofNat_lt.2 (lt_of_get ha1)) ?_
    refine wr_skip ?_
    refine wr_seq ?_
    refine wr_block ?_
    refine wr_seq ?_
    refine wr_region ?_
    refine wo_val (.int .i64 (j : Int)) rfl pv_move ?_
    refine wo_val (.int .i64 (j : Int)) rfl pv_assign ?_
    refine wo_nil ?_
    refine wr_seq ?_
    refine wr_region ?_
    refine wo_alloc (j := 2) hI rfl rfl rfl rfl ti4 rfl fun g3 => ?_
    refine wo_store (st_ptr hI rfl rfl rfl rfl ti4 rfl rfl rfl rfl rfl) ?_
    refine wo_nil ?_
    refine wr_hp [(some (.rows g1 1 [[(.int .i64 0)]])), (some (.rows g 8 [(rAirspace a)])), (some (.rows g3 1 [[(.bool false)]])), none, none, none, none, (ownO v g2 1 (List.map (rI .i64) x1))] rfl ?_
    refine wr_seq ?_
    refine wr_seq ?_
    refine wr_region ?_
    refine wo_val (.agg (rAirspace a)) rfl (pv_load (ld_ptr hI rfl rfl rfl ti31 rfl)) ?_
    refine wo_val (.int .i64 (j : Int)) rfl pv_move ?_
    refine of_callG [3, 4] hI rfl rfl (cg_opening_legs_2 a (j : Int) _ (ix ids 3) (ix ids 4) (by exact hI.sub' rfl rfl)) rfl rfl rfl rfl rfl rfl (fun v _ => wu_star (hU v _ _ _ _ rfl rfl rfl rfl rfl)) ?_
    rintro _ _ _ _ ⟨g4, g5, rfl, rfl⟩
    refine wo_putH [3, 4] [(some (.rows g1 1 [[(.int .i64 0)]])), (some (.rows g 8 [(rAirspace a)])), (some (.rows g3 1 [[(.bool false)]])), (some (.rows g4 8 [(rAirspace a)])), (some (.rows g5 1 [[(.int .i64 (j : Int))]])), none, none, (ownO v g2 1 (List.map (rI .i64) x1))] hI rfl rfl rfl rfl ?_
    refine wo_put1 ?_
    refine wo_nil ?_
    refine wr_hp [(some (.rows g1 1 [[(.int .i64 0)]])), (some (.rows g 8 [(rAirspace a)])), (some (.rows g3 1 [[(.bool false)]])), (some (.rows g4 8 [(rAirspace a)])), (some (.rows g5 1 [[(.int .i64 (j : Int))]])), none, none, (ownO v g2 1 (List.map (rI .i64) x1))] rfl ?_
    refine wr_block ?_
    refine wr_frz (h2 := hp h0 ids [(some (.rows g1 1 [[(.int .i64 0)]])), (some (.rows g 8 [(rAirspace a)])), (some (.rows g3 1 [[(.bool false)]])), none, none, none, none, (ownO v g2 1 (List.map (rI .i64) x1))]) [(1, (.ptr (ix ids 1) g 0 0)), (2, .emp), (3, (.ptr (ix ids 0) g1 0 0)), (4, v), (5, (.int .i64 (j : Int))), (6, (.ptr (ix ids 2) g3 0 0)), (11, (.int .i64 (a.Routes.length : Int))), (12, (.int .i64 (j : Int))), (17, (.func (.func 41) [] [(.cp [(.int .i64 (j : Int))] 0), (.cp (rAirspace a) 0)]))] (Drops.sub (.keep (.keep (.keep (.drop (.drop (.keep (.keep (.keep .nil)))))))) hI.len) (.cons (.same _) (.cons (.same _) (.cons (.same _) (.cons (.same _) (.cons (.same _) (.cons (.same _) (.cons (.same _) (.cons (.same _) (.cons (.funcL .nil (.cons (.ptrL (hI.at rfl rfl) (hI.at rfl rfl) rfl (lf_refl _)) (.cons (.ptrL (hI.at rfl rfl) (hI.at rfl rfl) rfl (lf_refl _)) .nil))) .nil))))))))) rfl rfl ?_
    refine wr_is [(1, (.ptr (ix ids 1) g 0 0)), (2, .emp), (3, (.ptr (ix ids 0) g1 0 0)), (4, v), (5, (.int .i64 (j : Int))), (6, (.ptr (ix ids 2) g3 0 0)), (11, (.int .i64 (a.Routes.length : Int))), (12, (.int .i64 (j : Int))), (17, (.func (.func 41) [] [(.cp [(.int .i64 (j : Int))] 0), (.cp (rAirspace a) 0)]))] (.cons rfl (.cons rfl (.cons rfl (.cons rfl (.cons rfl (.cons rfl (.cons rfl (.cons rfl (.cons rfl .nil))))))))) ?_
    refine wf_rangeFunc (P := Try.prog) 5 (fun (gL : Nat) (r_L : Loop) => fun o => fun (h1 : AHeap) => h1 = hp h0 ids [(some (.rows g1 1 [[(.int .i64 0)]])), (some (.rows g 8 [(rAirspace a)])), (some (.rows g3 1 [[(.bool o)]])), none, none, (some (.blk gL (.loop r_L))), none, (ownO v g2 1 (List.map (rI .i64) x1))] : Nat → Loop → Bool → AHeap → Prop) rfl rfl hI rfl rfl rfl fun gL y_L r_L hl_L hy_L => ⟨?_, ?_, ?_, ?_⟩
    · refine cy_opening_legs_c1 (j : Int) a _ _ _ _ _ (fun a2 => yok_intro hl_L (by decide) rfl hy_L ?_ ?_) (fun _ _ _ => R.np_ne _ _) _ _ ?_
      · rintro o _ rfl
        exact hI.at rfl rfl
      · rintro lo_ o _ rfl
        refine wr_np (wr_in (wr_mod (m' := opening_Blocked_b1 a2 o) rfl (wr_mod (opening_Blocked_b1.eq_1 _ _) ?_)))
        refine wr_frl [(18, (.agg (rLeg a2))), (1, (.ptr (ix ids 1) g 0 0)), (2, .emp), (3, (.ptr (ix ids 0) g1 0 0)), (4, v), (5, (.int .i64 (j : Int))), (6, (.ptr (ix ids 2) g3 0 0)), (11, (.int .i64 (a.Routes.length : Int))), (12, (.int .i64 (j : Int))), (17, (.func (.func 41) [] [(.cp [(.int .i64 (j : Int))] 0), (.cp (rAirspace a) 0)]))] (frPut_frA _ _ _) ?_
        refine wr_region ?_
        refine wo_alloc (j := 6) hI rfl rfl rfl rfl ti52 rfl fun g6 => ?_
        refine wo_store (st_ptr hI rfl rfl rfl rfl ti52 rfl rfl rfl rfl rfl) ?_
        refine wo_nil ?_
        refine wr_hp [(some (.rows g1 1 [[(.int .i64 0)]])), (some (.rows g 8 [(rAirspace a)])), (some (.rows g3 1 [[(.bool o)]])), none, none, (some (.blk gL (.loop r_L))), (some (.rows g6 4 [(rLeg a2)])), (ownO v g2 1 (List.map (rI .i64) x1))] rfl ?_
        refine wr_beginRoundH hI rfl rfl rfl hl_L.ready ?_
        refine wr_hp [(some (.rows g1 1 [[(.int .i64 0)]])), (some (.rows g 8 [(rAirspace a)])), (some (.rows g3 1 [[(.bool o)]])), none, none, (some (.blk gL (.loop { r_L with state := .busy }))), (some (.rows g6 4 [(rLeg a2)])), (ownO v g2 1 (List.map (rI .i64) x1))] rfl ?_
        refine wr_block ?_
        refine wr_region ?_
        refine wo_val (.bool o) rfl (pv_load (ld_ptr hI rfl rfl rfl ti4 rfl)) ?_
        refine wo_val (.bool o) rfl pv_move ?_
        refine wo_meet 5 [(2, .emp), (3, (.ptr (ix ids 0) g1 0 0)), (6, (.ptr (ix ids 2) g3 0 0)), (25, (.bool (o || ((a2.Minutes.length : Int) == 0))))] ?_ fun hJ => wo_cases o (fun hb1 => ?_) (fun hb1 => ?_)
        · refine wo_store (st_ptr hI rfl rfl rfl rfl ti4 rfl rfl rfl rfl rfl) ?_
          refine wo_nil ?_
          refine wr_hp [(some (.rows g1 1 [[(.int .i64 0)]])), (some (.rows g 8 [(rAirspace a)])), (some (.rows g3 1 [[(.bool (o || ((a2.Minutes.length : Int) == 0)))]])), none, none, (some (.blk gL (.loop { r_L with state := .busy }))), (some (.rows g6 4 [(rLeg a2)])), (ownO v g2 1 (List.map (rI .i64) x1))] rfl ?_
          refine wr_inBlock ?_
          refine wr_drop [(some (.rows g1 1 [[(.int .i64 0)]])), (some (.rows g 8 [(rAirspace a)])), (some (.rows g3 1 [[(.bool (o || ((a2.Minutes.length : Int) == 0)))]])), none, none, (some (.blk gL (.loop { r_L with state := .busy }))), none, (ownO v g2 1 (List.map (rI .i64) x1))] hI rfl (.keep (.keep (.keep (.keep (.keep (.keep (.drop (.keep .nil)))))))) ?_
          exact wr_endBH (s := (o || ((a2.Minutes.length : Int) == 0))) (jL := 5) hI rfl rfl rfl rfl
        · refine wo_not (tj := 20) (b := true) rfl (congrArg AV.bool hb1) rfl rfl ?_
          refine wo_not (tj := 20) (b := true) rfl (congrArg AV.bool hb1) rfl rfl ?_
          refine wo_not (tj := 20) (b := true) rfl (congrArg AV.bool hb1) rfl rfl ?_
          refine wo_not (tj := 20) (b := true) rfl (congrArg AV.bool hb1) rfl rfl ?_
          refine wo_val (.bool true) rfl (pv_pick (t := true) (congrArg AV.bool hb1) rfl) ?_
          exact wo_is [(2, .emp), (3, (.ptr (ix ids 0) g1 0 0)), (6, (.ptr (ix ids 2) g3 0 0)), (25, (.bool (o || ((a2.Minutes.length : Int) == 0))))] (.cons rfl (.cons rfl (.cons rfl (.cons (or_t hb1) .nil)))) hJ
        · refine wo_valg (tj := 20) (.ptr (ix ids 6) g6 0 3) rfl (congrArg AV.bool hb1) rfl (pv_fa (fa_ptr (c := 0) (off := 3) (i := 3) ti52 rfl ti35 rfl)) ?_
          refine wo_valg (tj := 20) (.sl 2 (List.map rSpan a2.Minutes)) rfl (congrArg AV.bool hb1) rfl (pv_load (ld_ptr hI rfl rfl rfl ti35 rfl)) ?_
          refine wo_valg (tj := 20) (.int .i64 (a2.Minutes.length : Int)) rfl (congrArg AV.bool hb1) rfl (pv_len (len_sl ti35)) ?_
          refine wo_valg (tj := 20) (.bool ((a2.Minutes.length : Int) == 0)) rfl (congrArg AV.bool hb1) rfl (pv_bin rfl rfl rfl) ?_
          refine wo_val (.bool ((a2.Minutes.length : Int) == 0)) rfl (pv_pick (t := false) (congrArg AV.bool hb1) rfl) ?_
          exact wo_is [(2, .emp), (3, (.ptr (ix ids 0) g1 0 0)), (6, (.ptr (ix ids 2) g3 0 0)), (25, (.bool (o || ((a2.Minutes.length : Int) == 0))))] (.cons rfl (.cons rfl (.cons rfl (.cons (or_f hb1) .nil)))) hJ
      · exact rfl
    · rintro o _ rfl
      exact hI.at rfl rfl
    · rintro o _ _ rfl
      refine wr_upd [(some (.rows g1 1 [[(.int .i64 0)]])), (some (.rows g 8 [(rAirspace a)])), (some (.rows g3 1 [[(.bool o)]])), none, none, none, none, (ownO v g2 1 (List.map (rI .i64) x1))] hI rfl rfl rfl ?_
      refine wr_inBlock ?_
      refine wr_seq ?_
      refine wr_region ?_
      refine wo_val (.bool o) rfl (pv_load (ld_ptr hI rfl rfl rfl ti4 rfl)) ?_
      refine wo_nil ?_
      refine wf_iteb rfl (fun hc => ?_) (fun hc => ?_)
      · refine wr_region ?_
        refine wo_val v rfl pv_move ?_
        refine wo_val (.int .i64 (j : Int)) rfl pv_move ?_
        refine wo_bsC (e := (rI .i64)) (L := [(j : Int)]) (st := 1) (rows := [[(.int .i64 (j : Int))]]) rfl ti34 ti3 rfl rfl rfl rfl rfl (.cons (RowSim.refl _) .nil) (fun x => ok_I x) rfl rfl ?_
        refine of_need fun hl => ?_
        refine wo_append (e := (rI .i64)) (L := x1) (L2 := [(j : Int)]) (v := v) (g := g2) (st := 1) (j := 7) hI rfl rfl rfl rfl vH rfl (src_sl rfl) ti34 ti34 rfl ti3 rfl rfl rfl hl fun v2 g7 vH1 => ?_
        refine wo_val v2 rfl pv_assign ?_
        refine wo_nil ?_
        refine wr_hp [(some (.rows g1 1 [[(.int .i64 0)]])), (some (.rows g 8 [(rAirspace a)])), (some (.rows g3 1 [[(.bool o)]])), none, none, none, none, (ownO v2 g7 1 (List.map (rI .i64) (x1 ++ [(j : Int)])))] rfl ?_
        refine wr_inBlock ?_
        refine wr_region ?_
        refine wo_val (.int .i64 (IntKind.wrap .i64 ((j : Int) + 1))) rfl (pv_bin rfl rfl rfl) ?_
        refine wo_val (.int .i64 (IntKind.wrap .i64 ((j : Int) + 1))) rfl pv_move ?_
        refine wo_nil ?_
        refine wr_drop [(some (.rows g1 1 [[(.int .i64 0)]])), (some (.rows g 8 [(rAirspace a)])), none, none, none, none, none, (ownO v2 g7 1 (List.map (rI .i64) (x1 ++ [(j : Int)])))] hI rfl (.keep (.keep (.drop (.keep (.keep (.keep (.keep (.keep .nil)))))))) ?_
        refine wr_is [(1, (.ptr (ix ids 1) g 0 0)), (2, .emp), (3, (.ptr (ix ids 0) g1 0 0)), (4, v2), (11, (.int .i64 (a.Routes.length : Int))), (12, (.int .i64 ((j + 1 : Nat) : Int)))] (.cons rfl (.cons rfl (.cons rfl (.cons rfl (.cons rfl (.cons (inc_ok (lt_of_get ha1) hlim) .nil)))))) ?_
        refine wb_S ?_
        refine hW (x1 ++ [(j : Int)]) _ _ ?_
        exact ⟨v2, g7, vH1, rfl, rfl⟩
      · refine wr_skip ?_
        refine wr_inBlock ?_
        refine wr_region ?_
        refine wo_val (.int .i64 (IntKind.wrap .i64 ((j : Int) + 1))) rfl (pv_bin rfl rfl rfl) ?_
        refine wo_val (.int .i64 (IntKind.wrap .i64 ((j : Int) + 1))) rfl pv_move ?_
        refine wo_nil ?_
        refine wr_drop [(some (.rows g1 1 [[(.int .i64 0)]])), (some (.rows g 8 [(rAirspace a)])), none, none, none, none, none, (ownO v g2 1 (List.map (rI .i64) x1))] hI rfl (.keep (.keep (.drop (.keep (.keep (.keep (.keep (.keep .nil)))))))) ?_
        refine wr_is [(1, (.ptr (ix ids 1) g 0 0)), (2, .emp), (3, (.ptr (ix ids 0) g1 0 0)), (4, v), (11, (.int .i64 (a.Routes.length : Int))), (12, (.int .i64 ((j + 1 : Nat) : Int)))] (.cons rfl (.cons rfl (.cons rfl (.cons rfl (.cons rfl (.cons (inc_ok (lt_of_get ha1) hlim) .nil)))))) ?_
        refine wb_S ?_
        refine hW x1 _ _ ?_
        exact ⟨v, g2, vH, rfl, rfl⟩
    · rintro v1 _ o _ rfl
      refine wu_upd [(some (.rows g1 1 [[(.int .i64 0)]])), (some (.rows g 8 [(rAirspace a)])), (some (.rows g3 1 [[(.bool o)]])), none, none, none, none, (ownO v g2 1 (List.map (rI .i64) x1))] hI rfl rfl rfl ?_
      exact wu_star (hU v1 _ _ _ _ rfl rfl rfl rfl rfl)
  · rintro x1 fr h ⟨v, g2, vH, rfl, rfl⟩
    refine wr_seq ?_
    refine wr_region ?_
    refine wo_val (.bool (decide ((a.Routes.length : Int) < (a.Routes.length : Int)))) rfl (pv_bin rfl rfl rfl) ?_
    refine wo_nil ?_
    refine wr_seq ?_
    refine wr_condF rfl (Int.lt_irrefl _) ?_
    refine wr_exit rfl ?_
    refine wr_seq ?_
    refine wr_region ?_
    refine wo_val v rfl pv_move ?_
    refine wo_val v rfl pv_assign ?_
    refine wo_store (st_ptr hI rfl rfl rfl rfl ti36 rfl rfl rfl rfl rfl) ?_
    refine wo_nil ?_
    exact wr_retU (wu_star (wu_retC (a := (x1, 0)) (vs := [v, (.int .i64 0)]) Try.func18 hI (cdr_opening_Blocked_c1 _ _) (ares_tmp (ares_cell (ld_ptr hI rfl rfl rfl ti36 rfl) ares_nil)) (.tupL (.cons (own_fz vH (hI.at rfl rfl) (hI.out rfl) (fun x => ok_I x)) (.cons (.same _) .nil)))))

theorem cp_ref11_SameSpans (a : (List Span)) (b : (List Span)) : CP Try.prog 14 [(.sl 2 (List.map rSpan a)), (.sl 2 (List.map rSpan b))] (ref11_SameSpans a b) (fun (x : Bool) => (AV.bool x)) := by
  refine cp_intro (n := 26) 0 Try.func14 rfl (by decide) rfl rfl fun h0 ids hI => ?_
  refine wr_in (wr_mod (ref11_SameSpans.eq_1 _ _) ?_)
  refine wr_seq ?_
  refine wr_region ?_
  refine wo_val (.bool false) rfl pv_assign ?_
  refine wo_nil ?_
  refine wr_seq ?_
  refine wr_seq ?_
  refine wr_region ?_
  refine wo_val (.sl 2 (List.map rSpan a)) rfl pv_move ?_
  refine wo_val (.int .i64 (a.length : Int)) rfl (pv_len (len_sl ti35)) ?_
  refine wo_val (.sl 2 (List.map rSpan b)) rfl pv_move ?_
  refine wo_val (.int .i64 (b.length : Int)) rfl (pv_len (len_sl ti35)) ?_
  refine wo_val (.bool ((a.length : Int) != (b.length : Int))) rfl (pv_bin rfl rfl rfl) ?_
  refine wo_nil ?_
  refine wf_iteb rfl (fun hc => ?_) (fun hc => ?_)
  · refine wr_seq ?_
    refine wr_region ?_
    refine wo_val (.bool false) rfl pv_assign ?_
    refine wo_nil ?_
    exact wr_ret (a := false) (vs := [(.bool false)]) Try.func14 hI rfl (.same _)
  · refine wr_skip ?_
    refine wr_seq ?_
    refine wr_seq ?_
    refine wr_region ?_
    refine wo_val (.int .i64 0) rfl pv_assign ?_
    refine wo_nil ?_
    refine wr_block ?_
    refine wr_is [(0, (.sl 2 (List.map rSpan a))), (1, (.sl 2 (List.map rSpan b))), (5, (.int .i64 0))] (.cons rfl (.cons rfl (.cons rfl .nil))) ?_
    refine wf_each' (P := Try.prog) a (fun j a1 => fun _ => ref11_SameSpans_b1 b j a1) ((alt (fun _ => .ok true) (fun r => .ok r)) : (Unit ⊕ Bool) → R Bool)
      (fun j => fun _ => fun (fr : Nat → AV) (h : AHeap) => fr = frA [(0, (.sl 2 (List.map rSpan a))), (1, (.sl 2 (List.map rSpan b))), (5, (.int .i64 (j : Int)))] ∧ h = hp h0 ids []) () ?_ ?_ ?_
    · exact ⟨rfl, rfl⟩
    · rintro j a1 ha1 W hW _ fr h ⟨rfl, rfl⟩
      refine wr_mod (m' := ref11_SameSpans_b1 b j a1) rfl (wr_mod (ref11_SameSpans_b1.eq_1 _ _ _) ?_)
      refine wr_seq ?_
      refine wr_seq ?_
      refine wr_region ?_
      refine wo_val (.int .i64 (j : Int)) rfl pv_move ?_
      refine wo_val (.sl 2 (List.map rSpan a)) rfl pv_move ?_
      refine wo_val (.int .i64 (a.length : Int)) rfl (pv_len (len_sl ti35)) ?_
      refine wo_val (.bool (decide ((j : Int) < (a.length : Int)))) rfl (pv_bin rfl rfl rfl) ?_
      refine wo_nil ?_
      refine wr_lim (t := 0) (L := a) rfl fun hlim => ?_
      refine wr_condT rfl (Int.ofNat_lt.2 (lt_of_get ha1)) ?_
      refine wr_skip ?_
      refine wr_seq ?_
      refine wr_block ?_
      refine wr_seq ?_
      refine wr_draw hmix [[], [], [0, 1], [0, 1, 2], [], [], [4, 5], [4, 5, 6], [0, 1, 2, 3, 4, 5, 6, 7]] [(false, 0), (false, 1), (false, 2), (false, 3), (false, 4), (false, 5), (false, 6), (false, 7), (false, 8)] (by kernel_rfl) ?_
      refine wp_val (.sl 2 (List.map rSpan a)) rfl rfl pv_move ?_
      refine wp_val (.int .i64 (j : Int)) rfl rfl pv_move ?_
      refine wp_val (.cp (rSpan a1) 0) rfl rfl (pv_ixa (ixa_nat ti35 ti55 rfl ha1)) ?_
      refine wp_val (.agg (rSpan a1)) rfl rfl (pv_load (ld_cp ti55 rfl)) ?_
      refine wp_val (.sl 2 (List.map rSpan b)) rfl rfl pv_move ?_
      refine wp_val (.int .i64 (j : Int)) rfl rfl pv_move ?_
      refine op_idx fun a2 hz hx1 => ?_
      refine wp_val (.cp (rSpan a2) 0) rfl rfl (pv_ixa (ixa_sl ti35 ti55 rfl hz hx1)) ?_
      refine wp_val (.agg (rSpan a2)) rfl rfl (pv_load (ld_cp ti55 rfl)) ?_
      refine wp_val (.bool (!((a1.From == a2.From) && (a1.To == a2.To)))) rfl rfl (pv_bin (eqok55 rfl rfl) rfl neqs55) ?_
      refine wp_nil ?_
      refine wf_itebn rfl (fun hc1 => ?_) (fun hc1 => ?_)
      · refine wr_skip ?_
        refine wr_inBlock ?_
        refine wr_region ?_
        refine wo_val (.int .i64 (j : Int)) rfl pv_move ?_
        refine wo_val (.int .i64 (IntKind.wrap .i64 ((j : Int) + 1))) rfl (pv_bin rfl rfl rfl) ?_
        refine wo_val (.int .i64 (IntKind.wrap .i64 ((j : Int) + 1))) rfl pv_assign ?_
        refine wo_nil ?_
        refine wr_is [(0, (.sl 2 (List.map rSpan a))), (1, (.sl 2 (List.map rSpan b))), (5, (.int .i64 ((j + 1 : Nat) : Int)))] (.cons rfl (.cons rfl (.cons (inc_ok (lt_of_get ha1) hlim) .nil))) ?_
        refine wb_each ?_
        refine hW () _ _ ?_
        exact ⟨rfl, rfl⟩
      · refine wr_seq ?_
        refine wr_region ?_
        refine wo_val (.bool false) rfl pv_assign ?_
        refine wo_nil ?_
        refine wx_each ?_
        refine w_altr ?_
        exact wr_ret (a := false) (vs := [(.bool false)]) Try.func14 hI rfl (.same _)
    · rintro _ fr h ⟨rfl, rfl⟩
      refine wr_mod (alt_inl _ _ _) ?_
      refine wr_seq ?_
      refine wr_seq ?_
      refine wr_region ?_
      refine wo_val (.int .i64 (a.length : Int)) rfl pv_move ?_
      refine wo_val (.sl 2 (List.map rSpan a)) rfl pv_move ?_
      refine wo_val (.int .i64 (a.length : Int)) rfl (pv_len (len_sl ti35)) ?_
      refine wo_val (.bool (decide ((a.length : Int) < (a.length : Int)))) rfl (pv_bin rfl rfl rfl) ?_
      refine wo_nil ?_
      refine wr_condF rfl (Int.lt_irrefl _) ?_
      refine wr_exit rfl ?_
      refine wr_seq ?_
      refine wr_region ?_
      refine wo_val (.bool true) rfl pv_assign ?_
      refine wo_nil ?_
      exact wr_ret (a := true) (vs := [(.bool true)]) Try.func14 hI rfl (.same _)

theorem cp_ref11_SameInts (a : (List Int)) (b : (List Int)) : CP Try.prog 20 [(.sl 1 (List.map (rI .i64) a)), (.sl 1 (List.map (rI .i64) b))] (ref11_SameInts a b) (fun (x : Bool) => (AV.bool x)) := by
  refine cp_intro (n := 26) 0 Try.func20 rfl (by decide) rfl rfl fun h0 ids hI => ?_
  refine wr_in (wr_mod (ref11_SameInts.eq_1 _ _) ?_)
  refine wr_seq ?_
  refine wr_region ?_
  refine wo_val (.bool false) rfl pv_assign ?_
  refine wo_nil ?_
  refine wr_seq ?_
  refine wr_seq ?_
  refine wr_region ?_
  refine wo_val (.sl 1 (List.map (rI .i64) a)) rfl pv_move ?_
  refine wo_val (.int .i64 (a.length : Int)) rfl (pv_len (len_sl ti34)) ?_
  refine wo_val (.sl 1 (List.map (rI .i64) b)) rfl pv_move ?_
  refine wo_val (.int .i64 (b.length : Int)) rfl (pv_len (len_sl ti34)) ?_
  refine wo_val (.bool ((a.length : Int) != (b.length : Int))) rfl (pv_bin rfl rfl rfl) ?_
  refine wo_nil ?_
  refine wf_iteb rfl (fun hc => ?_) (fun hc => ?_)
  · refine wr_seq ?_
    refine wr_region ?_
    refine wo_val (.bool false) rfl pv_assign ?_
    refine wo_nil ?_
    exact wr_ret (a := false) (vs := [(.bool false)]) Try.func20 hI rfl (.same _)
  · refine wr_skip ?_
    refine wr_seq ?_
    refine wr_seq ?_
    refine wr_region ?_
    refine wo_val (.int .i64 0) rfl pv_assign ?_
    refine wo_nil ?_
    refine wr_block ?_
    refine wr_is [(0, (.sl 1 (List.map (rI .i64) a))), (1, (.sl 1 (List.map (rI .i64) b))), (5, (.int .i64 0))] (.cons rfl (.cons rfl (.cons rfl .nil))) ?_
    refine wf_each' (P := Try.prog) a (fun j a1 => fun _ => ref11_SameInts_b1 b j a1) ((alt (fun _ => .ok true) (fun r => .ok r)) : (Unit ⊕ Bool) → R Bool)
      (fun j => fun _ => fun (fr : Nat → AV) (h : AHeap) => fr = frA [(0, (.sl 1 (List.map (rI .i64) a))), (1, (.sl 1 (List.map (rI .i64) b))), (5, (.int .i64 (j : Int)))] ∧ h = hp h0 ids []) () ?_ ?_ ?_
    · exact ⟨rfl, rfl⟩
    · rintro j a1 ha1 W hW _ fr h ⟨rfl, rfl⟩
      refine wr_mod (m' := ref11_SameInts_b1 b j a1) rfl (wr_mod (ref11_SameInts_b1.eq_1 _ _ _) ?_)
      refine wr_seq ?_
      refine wr_seq ?_
      refine wr_region ?_
      refine wo_val (.int .i64 (j : Int)) rfl pv_move ?_
      refine wo_val (.sl 1 (List.map (rI .i64) a)) rfl pv_move ?_
      refine wo_val (.int .i64 (a.length : Int)) rfl (pv_len (len_sl ti34)) ?_
      refine wo_val (.bool (decide ((j : Int) < (a.length : Int)))) rfl (pv_bin rfl rfl rfl) ?_
      refine wo_nil ?_
      refine wr_lim (t := 0) (L := a) rfl fun hlim => ?_
      refine wr_condT rfl (Int.ofNat_lt.2 (lt_of_get ha1)) ?_
      refine wr_skip ?_
      refine wr_seq ?_
      refine wr_block ?_
      refine wr_seq ?_
      refine wr_draw hmix [[], [], [0, 1], [0, 1, 2], [], [], [4, 5], [4, 5, 6], [0, 1, 2, 3, 4, 5, 6, 7]] [(false, 0), (false, 1), (false, 2), (false, 3), (false, 4), (false, 5), (false, 6), (false, 7), (false, 8)] (by kernel_rfl) ?_
      refine wp_val (.sl 1 (List.map (rI .i64) a)) rfl rfl pv_move ?_
      refine wp_val (.int .i64 (j : Int)) rfl rfl pv_move ?_
      refine wp_val (.cp [(.int .i64 a1)] 0) rfl rfl (pv_ixa (ixa_nat ti34 ti3 rfl ha1)) ?_
      refine wp_val (.int .i64 a1) rfl rfl (pv_load (ld_cp ti3 rfl)) ?_
      refine wp_val (.sl 1 (List.map (rI .i64) b)) rfl rfl pv_move ?_
      refine wp_val (.int .i64 (j : Int)) rfl rfl pv_move ?_
      refine op_idx fun a2 hz hx1 => ?_
      refine wp_val (.cp [(.int .i64 a2)] 0) rfl rfl (pv_ixa (ixa_sl ti34 ti3 rfl hz hx1)) ?_
      refine wp_val (.int .i64 a2) rfl rfl (pv_load (ld_cp ti3 rfl)) ?_
      refine wp_val (.bool (a1 != a2)) rfl rfl (pv_bin rfl rfl rfl) ?_
      refine wp_nil ?_
      refine wf_iteb rfl (fun hc1 => ?_) (fun hc1 => ?_)
      · refine wr_seq ?_
        refine wr_region ?_
        refine wo_val (.bool false) rfl pv_assign ?_
        refine wo_nil ?_
        refine wx_each ?_
        refine w_altr ?_
        exact wr_ret (a := false) (vs := [(.bool false)]) Try.func20 hI rfl (.same _)
      · refine wr_skip ?_
        refine wr_inBlock ?_
        refine wr_region ?_
        refine wo_val (.int .i64 (j : Int)) rfl pv_move ?_
        refine wo_val (.int .i64 (IntKind.wrap .i64 ((j : Int) + 1))) rfl (pv_bin rfl rfl rfl) ?_
        refine wo_val (.int .i64 (IntKind.wrap .i64 ((j : Int) + 1))) rfl pv_assign ?_
        refine wo_nil ?_
        refine wr_is [(0, (.sl 1 (List.map (rI .i64) a))), (1, (.sl 1 (List.map (rI .i64) b))), (5, (.int .i64 ((j + 1 : Nat) : Int)))] (.cons rfl (.cons rfl (.cons (inc_ok (lt_of_get ha1) hlim) .nil))) ?_
        refine wb_each ?_
        refine hW () _ _ ?_
        exact ⟨rfl, rfl⟩
    · rintro _ fr h ⟨rfl, rfl⟩
      refine wr_mod (alt_inl _ _ _) ?_
      refine wr_seq ?_
      refine wr_seq ?_
      refine wr_region ?_
      refine wo_val (.int .i64 (a.length : Int)) rfl pv_move ?_
      refine wo_val (.sl 1 (List.map (rI .i64) a)) rfl pv_move ?_
      refine wo_val (.int .i64 (a.length : Int)) rfl (pv_len (len_sl ti34)) ?_
      refine wo_val (.bool (decide ((a.length : Int) < (a.length : Int)))) rfl (pv_bin rfl rfl rfl) ?_
      refine wo_nil ?_
      refine wr_condF rfl (Int.lt_irrefl _) ?_
      refine wr_exit rfl ?_
      refine wr_seq ?_
      refine wr_region ?_
      refine wo_val (.bool true) rfl pv_assign ?_
      refine wo_nil ?_
      exact wr_ret (a := true) (vs := [(.bool true)]) Try.func20 hI rfl (.same _)

theorem cp_law11_sane : CP Try.prog 8 [] (law11_sane) (fun (x : Bool) => (AV.bool x)) := by
  refine cp_intro (n := 146) 1 Try.func8 rfl (by decide) rfl rfl fun h0 ids hI => ?_
  refine wr_in (wr_mod (law11_sane.eq_1) ?_)
  refine wr_seq ?_
  refine wr_region ?_
  refine wo_val (.bool false) rfl pv_assign ?_
  refine wo_nil ?_
  refine wr_seq ?_
  refine wr_region ?_
  refine of_call [] rfl rfl rfl rfl ((cp_law11_sample) _) (fun v _ => wu_pan Try.func8 hI) fun r _ => ?_
  refine wo_alloc (j := 0) hI rfl rfl rfl rfl ti31 rfl fun g => ?_
  refine wo_store (st_ptr hI rfl rfl rfl rfl ti31 rfl rfl rfl rfl rfl) ?_
  refine wo_nil ?_
  refine wr_hp [(some (.rows g 8 [(rAirspace r)]))] rfl ?_
  refine wr_seq ?_
  refine wr_region ?_
  refine wo_val (.agg (rAirspace r)) rfl (pv_load (ld_ptr hI rfl rfl rfl ti31 rfl)) ?_
  refine of_call [(.agg (rAirspace r)), (.int .i64 0)] rfl rfl rfl rfl ((cp_opening_Minutes r 0) _) (fun v _ => wu_pan Try.func8 hI) fun r1 _ => ?_
  refine wo_val (.tup [(.sl 2 (List.map rSpan r1.1)), (.int .i64 r1.2)]) rfl pv_move ?_
  refine wo_val (.sl 2 (List.map rSpan r1.1)) rfl (pv_ext rfl) ?_
  refine wo_val (.int .i64 r1.2) rfl (pv_ext rfl) ?_
  refine wo_val (.sl 2 (List.map rSpan r1.1)) rfl pv_assign ?_
  refine wo_val (.int .i64 r1.2) rfl pv_assign ?_
  refine wo_nil ?_
  refine wr_seq ?_
  refine wr_region ?_
  refine wo_val (.agg (rAirspace r)) rfl (pv_load (ld_ptr hI rfl rfl rfl ti31 rfl)) ?_
  refine of_call [(.agg (rAirspace r)), (.int .i64 1)] rfl rfl rfl rfl ((cp_opening_Legs r 1) _) (fun v _ => wu_pan Try.func8 hI) fun r2 _ => ?_
  refine wo_val (.tup [(.sl 4 (List.map rLeg r2.1)), (.int .i64 r2.2)]) rfl pv_move ?_
  refine wo_val (.sl 4 (List.map rLeg r2.1)) rfl (pv_ext rfl) ?_
  refine wo_val (.int .i64 r2.2) rfl (pv_ext rfl) ?_
  refine wo_val (.sl 4 (List.map rLeg r2.1)) rfl pv_assign ?_
  refine wo_val (.int .i64 r2.2) rfl pv_assign ?_
  refine wo_nil ?_
  refine wr_seq ?_
  refine wr_region ?_
  refine wo_val (.agg (rAirspace r)) rfl (pv_load (ld_ptr hI rfl rfl rfl ti31 rfl)) ?_
  refine of_call [(.agg (rAirspace r)), (.int .i64 2)] rfl rfl rfl rfl ((cp_opening_Legs r 2) _) (fun v _ => wu_pan Try.func8 hI) fun r3 _ => ?_
  refine wo_val (.tup [(.sl 4 (List.map rLeg r3.1)), (.int .i64 r3.2)]) rfl pv_move ?_
  refine wo_val (.sl 4 (List.map rLeg r3.1)) rfl (pv_ext rfl) ?_
  refine wo_val (.int .i64 r3.2) rfl (pv_ext rfl) ?_
  refine wo_val (.sl 4 (List.map rLeg r3.1)) rfl pv_assign ?_
  refine wo_val (.int .i64 r3.2) rfl pv_assign ?_
  refine wo_nil ?_
  refine wr_seq ?_
  refine wr_region ?_
  refine wo_val (.agg (rAirspace r)) rfl (pv_load (ld_ptr hI rfl rfl rfl ti31 rfl)) ?_
  refine of_call [(.agg (rAirspace r))] rfl rfl rfl rfl ((cp_opening_Passable r) _) (fun v _ => wu_pan Try.func8 hI) fun r4 _ => ?_
  refine wo_val (.tup [(.sl 1 (List.map (rI .i64) r4.1)), (.int .i64 r4.2)]) rfl pv_move ?_
  refine wo_val (.sl 1 (List.map (rI .i64) r4.1)) rfl (pv_ext rfl) ?_
  refine wo_val (.int .i64 r4.2) rfl (pv_ext rfl) ?_
  refine wo_val (.sl 1 (List.map (rI .i64) r4.1)) rfl pv_assign ?_
  refine wo_val (.int .i64 r4.2) rfl pv_assign ?_
  refine wo_nil ?_
  refine wr_seq ?_
  refine wr_region ?_
  refine wo_val (.agg (rAirspace r)) rfl (pv_load (ld_ptr hI rfl rfl rfl ti31 rfl)) ?_
  refine of_call [(.agg (rAirspace r))] rfl rfl rfl rfl ((cp_opening_Blocked r) _) (fun v _ => wu_pan Try.func8 hI) fun r5 _ => ?_
  refine wo_val (.tup [(.sl 1 (List.map (rI .i64) r5.1)), (.int .i64 r5.2)]) rfl pv_move ?_
  refine wo_val (.sl 1 (List.map (rI .i64) r5.1)) rfl (pv_ext rfl) ?_
  refine wo_val (.int .i64 r5.2) rfl (pv_ext rfl) ?_
  refine wo_val (.sl 1 (List.map (rI .i64) r5.1)) rfl pv_assign ?_
  refine wo_val (.int .i64 r5.2) rfl pv_assign ?_
  refine wo_nil ?_
  refine wr_seq ?_
  refine wr_region ?_
  refine wo_val (.agg [.emp, .emp, .emp, .emp, .emp, .emp, .emp, .emp]) rfl (pv_build (bd_st ti31 pl31 rfl)) ?_
  refine of_call [(.agg [.emp, .emp, .emp, .emp, .emp, .emp, .emp, .emp]), (.int .i64 0)] rfl rfl rfl rfl (fun hb => ACalls.weak (.cons (.aggL (.cons (.emp _) (.cons (.emp _) (.cons (.emp _) (.cons (.emp _) (.cons (.emp _) (.cons (.emp _) (.cons (.emp _) (.cons (.emp _) .nil))))))))) (.cons (.same _) .nil)) ((cp_opening_Minutes ({ Volumes := [], Sectors := [], Configs := [], Segments := [], Routes := [], Airports := [], Classes := [], Rules := [] } : Airspace) 0) _ hb)) (fun v _ => wu_pan Try.func8 hI) fun r6 _ => ?_
  refine wo_val (.tup [(.sl 2 (List.map rSpan r6.1)), (.int .i64 r6.2)]) rfl pv_move ?_
  refine wo_val (.sl 2 (List.map rSpan r6.1)) rfl (pv_ext rfl) ?_
  refine wo_val (.int .i64 r6.2) rfl (pv_ext rfl) ?_
  refine wo_val (.sl 2 (List.map rSpan r6.1)) rfl pv_assign ?_
  refine wo_val (.int .i64 r6.2) rfl pv_assign ?_
  refine wo_nil ?_
  refine wr_seq ?_
  refine wr_region ?_
  refine wo_val (.agg [.emp, .emp, .emp, .emp, .emp, .emp, .emp, .emp]) rfl (pv_build (bd_st ti31 pl31 rfl)) ?_
  refine of_call [(.agg [.emp, .emp, .emp, .emp, .emp, .emp, .emp, .emp])] rfl rfl rfl rfl (fun hb => ACalls.weak (.cons (.aggL (.cons (.emp _) (.cons (.emp _) (.cons (.emp _) (.cons (.emp _) (.cons (.emp _) (.cons (.emp _) (.cons (.emp _) (.cons (.emp _) .nil))))))))) .nil) ((cp_opening_Passable ({ Volumes := [], Sectors := [], Configs := [], Segments := [], Routes := [], Airports := [], Classes := [], Rules := [] } : Airspace)) _ hb)) (fun v _ => wu_pan Try.func8 hI) fun r7 _ => ?_
  refine wo_val (.tup [(.sl 1 (List.map (rI .i64) r7.1)), (.int .i64 r7.2)]) rfl pv_move ?_
  refine wo_val (.sl 1 (List.map (rI .i64) r7.1)) rfl (pv_ext rfl) ?_
  refine wo_val (.int .i64 r7.2) rfl (pv_ext rfl) ?_
  refine wo_val (.sl 1 (List.map (rI .i64) r7.1)) rfl pv_assign ?_
  refine wo_val (.int .i64 r7.2) rfl pv_assign ?_
  refine wo_nil ?_
  refine wr_seq ?_
  refine wr_region ?_
  refine wo_val (.agg [.emp, .emp, .emp, .emp, .emp, .emp, .emp, .emp]) rfl (pv_build (bd_st ti31 pl31 rfl)) ?_
  refine of_call [(.agg [.emp, .emp, .emp, .emp, .emp, .emp, .emp, .emp])] rfl rfl rfl rfl (fun hb => ACalls.weak (.cons (.aggL (.cons (.emp _) (.cons (.emp _) (.cons (.emp _) (.cons (.emp _) (.cons (.emp _) (.cons (.emp _) (.cons (.emp _) (.cons (.emp _) .nil))))))))) .nil) ((cp_opening_Blocked ({ Volumes := [], Sectors := [], Configs := [], Segments := [], Routes := [], Airports := [], Classes := [], Rules := [] } : Airspace)) _ hb)) (fun v _ => wu_pan Try.func8 hI) fun r8 _ => ?_
  refine wo_val (.tup [(.sl 1 (List.map (rI .i64) r8.1)), (.int .i64 r8.2)]) rfl pv_move ?_
  refine wo_val (.sl 1 (List.map (rI .i64) r8.1)) rfl (pv_ext rfl) ?_
  refine wo_val (.int .i64 r8.2) rfl (pv_ext rfl) ?_
  refine wo_val (.sl 1 (List.map (rI .i64) r8.1)) rfl pv_assign ?_
  refine wo_val (.int .i64 r8.2) rfl pv_assign ?_
  refine wo_nil ?_
  refine wr_seq ?_
  refine wr_seq ?_
  refine wr_region ?_
  refine wo_val (.int .i64 r1.2) rfl pv_move ?_
  refine wo_val (.bool (r1.2 != 0)) rfl (pv_bin rfl rfl rfl) ?_
  refine wo_val (.bool (r1.2 != 0)) rfl pv_move ?_
  refine wo_meet 3 [(2, (.sl 2 (List.map rSpan r1.1))), (4, (.sl 4 (List.map rLeg r2.1))), (6, (.sl 4 (List.map rLeg r3.1))), (7, (.int .i64 r3.2)), (8, (.sl 1 (List.map (rI .i64) r4.1))), (9, (.int .i64 r4.2)), (10, (.sl 1 (List.map (rI .i64) r5.1))), (11, (.int .i64 r5.2)), (13, (.int .i64 r6.2)), (14, (.sl 1 (List.map (rI .i64) r7.1))), (15, (.int .i64 r7.2)), (16, (.sl 1 (List.map (rI .i64) r8.1))), (17, (.int .i64 r8.2)), (64, (.bool ((r1.2 != 0) || (r2.2 != 0))))] ?_ fun hJ => wo_cases (r1.2 != 0) (fun hb1 => ?_) (fun hb1 => ?_)
  · refine wo_val (.bool ((r1.2 != 0) || (r2.2 != 0))) rfl pv_move ?_
    refine wo_meet 3 [(2, (.sl 2 (List.map rSpan r1.1))), (4, (.sl 4 (List.map rLeg r2.1))), (6, (.sl 4 (List.map rLeg r3.1))), (8, (.sl 1 (List.map (rI .i64) r4.1))), (9, (.int .i64 r4.2)), (10, (.sl 1 (List.map (rI .i64) r5.1))), (11, (.int .i64 r5.2)), (13, (.int .i64 r6.2)), (14, (.sl 1 (List.map (rI .i64) r7.1))), (15, (.int .i64 r7.2)), (16, (.sl 1 (List.map (rI .i64) r8.1))), (17, (.int .i64 r8.2)), (68, (.bool (((r1.2 != 0) || (r2.2 != 0)) || (r3.2 != 0))))] ?_ fun hJ1 => wo_cases ((r1.2 != 0) || (r2.2 != 0)) (fun hb3 => ?_) (fun hb3 => ?_)
    · refine wo_val (.bool (((r1.2 != 0) || (r2.2 != 0)) || (r3.2 != 0))) rfl pv_move ?_
      refine wo_meet 3 [(2, (.sl 2 (List.map rSpan r1.1))), (4, (.sl 4 (List.map rLeg r2.1))), (6, (.sl 4 (List.map rLeg r3.1))), (8, (.sl 1 (List.map (rI .i64) r4.1))), (10, (.sl 1 (List.map (rI .i64) r5.1))), (11, (.int .i64 r5.2)), (13, (.int .i64 r6.2)), (14, (.sl 1 (List.map (rI .i64) r7.1))), (15, (.int .i64 r7.2)), (16, (.sl 1 (List.map (rI .i64) r8.1))), (17, (.int .i64 r8.2)), (72, (.bool ((((r1.2 != 0) || (r2.2 != 0)) || (r3.2 != 0)) || (r4.2 != 0))))] ?_ fun hJ2 => wo_cases (((r1.2 != 0) || (r2.2 != 0)) || (r3.2 != 0)) (fun hb5 => ?_) (fun hb5 => ?_)
      · refine wo_val (.bool ((((r1.2 != 0) || (r2.2 != 0)) || (r3.2 != 0)) || (r4.2 != 0))) rfl pv_move ?_
        refine wo_meet 3 [(2, (.sl 2 (List.map rSpan r1.1))), (4, (.sl 4 (List.map rLeg r2.1))), (6, (.sl 4 (List.map rLeg r3.1))), (8, (.sl 1 (List.map (rI .i64) r4.1))), (10, (.sl 1 (List.map (rI .i64) r5.1))), (13, (.int .i64 r6.2)), (14, (.sl 1 (List.map (rI .i64) r7.1))), (15, (.int .i64 r7.2)), (16, (.sl 1 (List.map (rI .i64) r8.1))), (17, (.int .i64 r8.2)), (76, (.bool (((((r1.2 != 0) || (r2.2 != 0)) || (r3.2 != 0)) || (r4.2 != 0)) || (r5.2 != 0))))] ?_ fun hJ3 => wo_cases ((((r1.2 != 0) || (r2.2 != 0)) || (r3.2 != 0)) || (r4.2 != 0)) (fun hb7 => ?_) (fun hb7 => ?_)
        · refine wo_val (.bool (((((r1.2 != 0) || (r2.2 != 0)) || (r3.2 != 0)) || (r4.2 != 0)) || (r5.2 != 0))) rfl pv_move ?_
          refine wo_meet 3 [(2, (.sl 2 (List.map rSpan r1.1))), (4, (.sl 4 (List.map rLeg r2.1))), (6, (.sl 4 (List.map rLeg r3.1))), (8, (.sl 1 (List.map (rI .i64) r4.1))), (10, (.sl 1 (List.map (rI .i64) r5.1))), (14, (.sl 1 (List.map (rI .i64) r7.1))), (15, (.int .i64 r7.2)), (16, (.sl 1 (List.map (rI .i64) r8.1))), (17, (.int .i64 r8.2)), (80, (.bool ((((((r1.2 != 0) || (r2.2 != 0)) || (r3.2 != 0)) || (r4.2 != 0)) || (r5.2 != 0)) || (r6.2 != 1))))] ?_ fun hJ4 => wo_cases (((((r1.2 != 0) || (r2.2 != 0)) || (r3.2 != 0)) || (r4.2 != 0)) || (r5.2 != 0)) (fun hb9 => ?_) (fun hb9 => ?_)
          · refine wo_val (.bool ((((((r1.2 != 0) || (r2.2 != 0)) || (r3.2 != 0)) || (r4.2 != 0)) || (r5.2 != 0)) || (r6.2 != 1))) rfl pv_move ?_
            refine wo_meet 3 [(2, (.sl 2 (List.map rSpan r1.1))), (4, (.sl 4 (List.map rLeg r2.1))), (6, (.sl 4 (List.map rLeg r3.1))), (8, (.sl 1 (List.map (rI .i64) r4.1))), (10, (.sl 1 (List.map (rI .i64) r5.1))), (14, (.sl 1 (List.map (rI .i64) r7.1))), (16, (.sl 1 (List.map (rI .i64) r8.1))), (17, (.int .i64 r8.2)), (84, (.bool (((((((r1.2 != 0) || (r2.2 != 0)) || (r3.2 != 0)) || (r4.2 != 0)) || (r5.2 != 0)) || (r6.2 != 1)) || (r7.2 != 0))))] ?_ fun hJ5 => wo_cases ((((((r1.2 != 0) || (r2.2 != 0)) || (r3.2 != 0)) || (r4.2 != 0)) || (r5.2 != 0)) || (r6.2 != 1)) (fun hb11 => ?_) (fun hb11 => ?_)
            · refine wo_val (.bool (((((((r1.2 != 0) || (r2.2 != 0)) || (r3.2 != 0)) || (r4.2 != 0)) || (r5.2 != 0)) || (r6.2 != 1)) || (r7.2 != 0))) rfl pv_move ?_
              refine wo_meet 3 [(2, (.sl 2 (List.map rSpan r1.1))), (4, (.sl 4 (List.map rLeg r2.1))), (6, (.sl 4 (List.map rLeg r3.1))), (8, (.sl 1 (List.map (rI .i64) r4.1))), (10, (.sl 1 (List.map (rI .i64) r5.1))), (14, (.sl 1 (List.map (rI .i64) r7.1))), (16, (.sl 1 (List.map (rI .i64) r8.1))), (88, (.bool ((((((((r1.2 != 0) || (r2.2 != 0)) || (r3.2 != 0)) || (r4.2 != 0)) || (r5.2 != 0)) || (r6.2 != 1)) || (r7.2 != 0)) || (r8.2 != 0))))] ?_ fun hJ6 => wo_cases (((((((r1.2 != 0) || (r2.2 != 0)) || (r3.2 != 0)) || (r4.2 != 0)) || (r5.2 != 0)) || (r6.2 != 1)) || (r7.2 != 0)) (fun hb13 => ?_) (fun hb13 => ?_)
              · refine wo_val (.bool ((((((((r1.2 != 0) || (r2.2 != 0)) || (r3.2 != 0)) || (r4.2 != 0)) || (r5.2 != 0)) || (r6.2 != 1)) || (r7.2 != 0)) || (r8.2 != 0))) rfl pv_move ?_
                refine wo_meet 4 [(2, (.sl 2 (List.map rSpan r1.1))), (4, (.sl 4 (List.map rLeg r2.1))), (6, (.sl 4 (List.map rLeg r3.1))), (8, (.sl 1 (List.map (rI .i64) r4.1))), (10, (.sl 1 (List.map (rI .i64) r5.1))), (14, (.sl 1 (List.map (rI .i64) r7.1))), (16, (.sl 1 (List.map (rI .i64) r8.1))), (93, (.bool (((((((((r1.2 != 0) || (r2.2 != 0)) || (r3.2 != 0)) || (r4.2 != 0)) || (r5.2 != 0)) || (r6.2 != 1)) || (r7.2 != 0)) || (r8.2 != 0)) || ((r2.1.length : Int) != 2))))] ?_ fun hJ7 => wo_cases ((((((((r1.2 != 0) || (r2.2 != 0)) || (r3.2 != 0)) || (r4.2 != 0)) || (r5.2 != 0)) || (r6.2 != 1)) || (r7.2 != 0)) || (r8.2 != 0)) (fun hb15 => ?_) (fun hb15 => ?_)
                · refine wo_nil ?_
                  refine wf_iteb rfl (fun hc => ?_) (fun hc => ?_)
                  · refine wr_seq ?_
                    refine wr_region ?_
                    refine wo_val (.bool false) rfl pv_assign ?_
                    refine wo_nil ?_
                    exact wr_ret (a := false) (vs := [(.bool false)]) Try.func8 hI rfl (.same _)
                  · refine wr_skip ?_
                    refine wr_seq ?_
                    refine wr_region ?_
                    refine wo_val (.sl 2 (List.map rSpan r1.1)) rfl pv_move ?_
                    refine wo_val (.agg [(.int .i64 100), (.int .i64 150)]) rfl (pv_build (bd_st ti55 pl55 rfl)) ?_
                    refine wo_val (.agg [(.int .i64 160), (.int .i64 200)]) rfl (pv_build (bd_st ti55 pl55 rfl)) ?_
                    refine wo_bsC (e := rSpan) (L := [({ From := 100, To := 150 } : Span), ({ From := 160, To := 200 } : Span)]) (st := 2) (rows := [[(.int .i64 100), (.int .i64 150)], [(.int .i64 160), (.int .i64 200)]]) rfl ti35 ti55 rfl rfl rfl rfl rfl (.cons (.cons (.same _) (.cons (.same _) .nil)) (.cons (.cons (.same _) (.cons (.same _) .nil)) .nil)) (fun x => ok_Span x) rfl rfl ?_
                    refine of_call [(.sl 2 (List.map rSpan r1.1)), (.sl 2 (List.map rSpan [({ From := 100, To := 150 } : Span), ({ From := 160, To := 200 } : Span)]))] rfl rfl rfl rfl ((cp_ref11_SameSpans r1.1 [({ From := 100, To := 150 } : Span), ({ From := 160, To := 200 } : Span)]) _) (fun v _ => wu_pan Try.func8 hI) fun r9 _ => ?_
                    refine wo_val (.bool r9) rfl pv_move ?_
                    refine wo_join 6 ((fun (b : Bool) => (if b then (idx r2.1 1).bind fun a1 =>
  R.ok (a1.Length == 40) else R.ok false).bind (fun (b1 : Bool) => (if b1 then (idx r2.1 1).bind fun a2 =>
  R.ok ((a2.Minutes.length : Int) == 0) else R.ok false).bind (fun (b2 : Bool) => (if (b2 && ((r3.1.length : Int) == 0)) then (ref11_SameInts r4.1 [0]).bind fun r10 =>
  R.ok r10 else R.ok false).bind (fun (b3 : Bool) => (if b3 then (ref11_SameInts r5.1 [1]).bind fun r11 =>
  R.ok r11 else R.ok false).bind (fun (b4 : Bool) => .ok ((b4 && ((r7.1.length : Int) == 0)) && ((r8.1.length : Int) == 0))))))) : Bool → R Bool) (fun (b : Bool) (fr : Nat → AV) (h : AHeap) => fr = frA [(4, (.sl 4 (List.map rLeg r2.1))), (6, (.sl 4 (List.map rLeg r3.1))), (8, (.sl 1 (List.map (rI .i64) r4.1))), (10, (.sl 1 (List.map (rI .i64) r5.1))), (14, (.sl 1 (List.map (rI .i64) r7.1))), (16, (.sl 1 (List.map (rI .i64) r8.1))), (105, (.bool b))] ∧ h = hp h0 ids [(some (.rows g 8 [(rAirspace r)]))]) ?_ fun hJ8 => of_if1 (fun hb17 => ?_) (fun hb17 => ?_)
                    · rintro b fr h ⟨rfl, rfl⟩
                      refine wo_val (.bool b) rfl pv_move ?_
                      refine wo_join 6 ((fun (b1 : Bool) => (if b1 then (idx r2.1 1).bind fun a2 =>
  R.ok ((a2.Minutes.length : Int) == 0) else R.ok false).bind (fun (b2 : Bool) => (if (b2 && ((r3.1.length : Int) == 0)) then (ref11_SameInts r4.1 [0]).bind fun r10 =>
  R.ok r10 else R.ok false).bind (fun (b3 : Bool) => (if b3 then (ref11_SameInts r5.1 [1]).bind fun r11 =>
  R.ok r11 else R.ok false).bind (fun (b4 : Bool) => .ok ((b4 && ((r7.1.length : Int) == 0)) && ((r8.1.length : Int) == 0)))))) : Bool → R Bool) (fun (b1 : Bool) (fr : Nat → AV) (h : AHeap) => fr = frA [(4, (.sl 4 (List.map rLeg r2.1))), (6, (.sl 4 (List.map rLeg r3.1))), (8, (.sl 1 (List.map (rI .i64) r4.1))), (10, (.sl 1 (List.map (rI .i64) r5.1))), (14, (.sl 1 (List.map (rI .i64) r7.1))), (16, (.sl 1 (List.map (rI .i64) r8.1))), (112, (.bool b1))] ∧ h = hp h0 ids [(some (.rows g 8 [(rAirspace r)]))]) ?_ fun hJ9 => of_if1 (fun hb19 => ?_) (fun hb19 => ?_)
                      · rintro b1 fr h ⟨rfl, rfl⟩
                        refine wo_val (.bool b1) rfl pv_move ?_
                        refine wo_join 7 ((fun (b2 : Bool) => (if (b2 && ((r3.1.length : Int) == 0)) then (ref11_SameInts r4.1 [0]).bind fun r10 =>
  R.ok r10 else R.ok false).bind (fun (b3 : Bool) => (if b3 then (ref11_SameInts r5.1 [1]).bind fun r11 =>
  R.ok r11 else R.ok false).bind (fun (b4 : Bool) => .ok ((b4 && ((r7.1.length : Int) == 0)) && ((r8.1.length : Int) == 0))))) : Bool → R Bool) (fun (b2 : Bool) (fr : Nat → AV) (h : AHeap) => fr = frA [(6, (.sl 4 (List.map rLeg r3.1))), (8, (.sl 1 (List.map (rI .i64) r4.1))), (10, (.sl 1 (List.map (rI .i64) r5.1))), (14, (.sl 1 (List.map (rI .i64) r7.1))), (16, (.sl 1 (List.map (rI .i64) r8.1))), (120, (.bool b2))] ∧ h = hp h0 ids [(some (.rows g 8 [(rAirspace r)]))]) ?_ fun hJ10 => of_if1 (fun hb21 => ?_) (fun hb21 => ?_)
                        · rintro b2 fr h ⟨rfl, rfl⟩
                          refine wo_val (.bool b2) rfl pv_move ?_
                          refine wo_meet 4 [(8, (.sl 1 (List.map (rI .i64) r4.1))), (10, (.sl 1 (List.map (rI .i64) r5.1))), (14, (.sl 1 (List.map (rI .i64) r7.1))), (16, (.sl 1 (List.map (rI .i64) r8.1))), (125, (.bool (b2 && ((r3.1.length : Int) == 0))))] ?_ fun hJ11 => wo_cases b2 (fun hb23 => ?_) (fun hb23 => ?_)
                          · refine wo_val (.bool (b2 && ((r3.1.length : Int) == 0))) rfl pv_move ?_
                            refine wo_join 4 ((fun (b3 : Bool) => (if b3 then (ref11_SameInts r5.1 [1]).bind fun r11 =>
  R.ok r11 else R.ok false).bind (fun (b4 : Bool) => .ok ((b4 && ((r7.1.length : Int) == 0)) && ((r8.1.length : Int) == 0)))) : Bool → R Bool) (fun (b3 : Bool) (fr : Nat → AV) (h : AHeap) => fr = frA [(10, (.sl 1 (List.map (rI .i64) r5.1))), (14, (.sl 1 (List.map (rI .i64) r7.1))), (16, (.sl 1 (List.map (rI .i64) r8.1))), (130, (.bool b3))] ∧ h = hp h0 ids [(some (.rows g 8 [(rAirspace r)]))]) ?_ fun hJ12 => of_if1 (fun hb25 => ?_) (fun hb25 => ?_)
                            · rintro b3 fr h ⟨rfl, rfl⟩
                              refine wo_val (.bool b3) rfl pv_move ?_
                              refine wo_join 4 ((fun (b4 : Bool) => .ok ((b4 && ((r7.1.length : Int) == 0)) && ((r8.1.length : Int) == 0))) : Bool → R Bool) (fun (b4 : Bool) (fr : Nat → AV) (h : AHeap) => fr = frA [(14, (.sl 1 (List.map (rI .i64) r7.1))), (16, (.sl 1 (List.map (rI .i64) r8.1))), (135, (.bool b4))] ∧ h = hp h0 ids [(some (.rows g 8 [(rAirspace r)]))]) ?_ fun hJ13 => of_if1 (fun hb27 => ?_) (fun hb27 => ?_)
                              · rintro b4 fr h ⟨rfl, rfl⟩
                                refine wo_val (.bool b4) rfl pv_move ?_
                                refine wo_meet 4 [(16, (.sl 1 (List.map (rI .i64) r8.1))), (140, (.bool (b4 && ((r7.1.length : Int) == 0))))] ?_ fun hJ14 => wo_cases b4 (fun hb29 => ?_) (fun hb29 => ?_)
                                · refine wo_val (.bool (b4 && ((r7.1.length : Int) == 0))) rfl pv_move ?_
                                  refine wo_meet 4 [(145, (.bool ((b4 && ((r7.1.length : Int) == 0)) && ((r8.1.length : Int) == 0))))] ?_ fun hJ15 => wo_cases (b4 && ((r7.1.length : Int) == 0)) (fun hb31 => ?_) (fun hb31 => ?_)
                                  · refine wo_val (.bool ((b4 && ((r7.1.length : Int) == 0)) && ((r8.1.length : Int) == 0))) rfl pv_assign ?_
                                    refine wo_nil ?_
                                    exact wr_ret (a := ((b4 && ((r7.1.length : Int) == 0)) && ((r8.1.length : Int) == 0))) (vs := [(.bool ((b4 && ((r7.1.length : Int) == 0)) && ((r8.1.length : Int) == 0)))]) Try.func8 hI rfl (.same _)
                                  · refine wo_valg (tj := 141) (.sl 1 (List.map (rI .i64) r8.1)) rfl (congrArg AV.bool hb31) rfl pv_move ?_
                                    refine wo_valg (tj := 141) (.int .i64 (r8.1.length : Int)) rfl (congrArg AV.bool hb31) rfl (pv_len (len_sl ti34)) ?_
                                    refine wo_valg (tj := 141) (.bool ((r8.1.length : Int) == 0)) rfl (congrArg AV.bool hb31) rfl (pv_bin rfl rfl rfl) ?_
                                    refine wo_val (.bool ((r8.1.length : Int) == 0)) rfl (pv_pick (t := true) (congrArg AV.bool hb31) rfl) ?_
                                    exact wo_is [(145, (.bool ((b4 && ((r7.1.length : Int) == 0)) && ((r8.1.length : Int) == 0))))] (.cons (and_t hb31) .nil) hJ15
                                  · refine wo_not (tj := 141) (b := false) rfl (congrArg AV.bool hb31) rfl rfl ?_
                                    refine wo_not (tj := 141) (b := false) rfl (congrArg AV.bool hb31) rfl rfl ?_
                                    refine wo_not (tj := 141) (b := false) rfl (congrArg AV.bool hb31) rfl rfl ?_
                                    refine wo_val (.bool false) rfl (pv_pick (t := false) (congrArg AV.bool hb31) rfl) ?_
                                    exact wo_is [(145, (.bool ((b4 && ((r7.1.length : Int) == 0)) && ((r8.1.length : Int) == 0))))] (.cons (and_f hb31) .nil) hJ15
                                · refine wo_valg (tj := 136) (.sl 1 (List.map (rI .i64) r7.1)) rfl (congrArg AV.bool hb29) rfl pv_move ?_
                                  refine wo_valg (tj := 136) (.int .i64 (r7.1.length : Int)) rfl (congrArg AV.bool hb29) rfl (pv_len (len_sl ti34)) ?_
                                  refine wo_valg (tj := 136) (.bool ((r7.1.length : Int) == 0)) rfl (congrArg AV.bool hb29) rfl (pv_bin rfl rfl rfl) ?_
                                  refine wo_val (.bool ((r7.1.length : Int) == 0)) rfl (pv_pick (t := true) (congrArg AV.bool hb29) rfl) ?_
                                  exact wo_is [(16, (.sl 1 (List.map (rI .i64) r8.1))), (140, (.bool (b4 && ((r7.1.length : Int) == 0))))] (.cons rfl (.cons (and_t hb29) .nil)) hJ14
                                · refine wo_not (tj := 136) (b := false) rfl (congrArg AV.bool hb29) rfl rfl ?_
                                  refine wo_not (tj := 136) (b := false) rfl (congrArg AV.bool hb29) rfl rfl ?_
                                  refine wo_not (tj := 136) (b := false) rfl (congrArg AV.bool hb29) rfl rfl ?_
                                  refine wo_val (.bool false) rfl (pv_pick (t := false) (congrArg AV.bool hb29) rfl) ?_
                                  exact wo_is [(16, (.sl 1 (List.map (rI .i64) r8.1))), (140, (.bool (b4 && ((r7.1.length : Int) == 0))))] (.cons rfl (.cons (and_f hb29) .nil)) hJ14
                              · refine wo_valg (tj := 131) (.sl 1 (List.map (rI .i64) r5.1)) rfl (congrArg AV.bool hb27) rfl pv_move ?_
                                refine wo_opg (tj := 131) rfl (congrArg AV.bool hb27) rfl (fun _ _ => rfl) (fun K hK => eff_bsC (e := (rI .i64)) (L := [1]) (st := 1) (rows := [[(.int .i64 1)]]) ti34 ti3 rfl rfl rfl rfl rfl (.cons (RowSim.refl _) .nil) (fun x => ok_I x) rfl rfl (hK _ _ ?_)) 
                                clear hK K
                                refine of_call [(.sl 1 (List.map (rI .i64) r5.1)), (.sl 1 (List.map (rI .i64) [1]))] rfl (wanted_yes (tj := 131) rfl (congrArg AV.bool hb27)) rfl rfl ((cp_ref11_SameInts r5.1 [1]) _) (fun v _ => wu_pan Try.func8 hI) fun r11 _ => ?_
                                refine wo_val (.bool r11) rfl (pv_pick (t := true) (congrArg AV.bool hb27) rfl) ?_
                                refine wo_back1 ?_
                                refine wo_is [(14, (.sl 1 (List.map (rI .i64) r7.1))), (16, (.sl 1 (List.map (rI .i64) r8.1))), (135, (.bool r11))] (.cons rfl (.cons rfl (.cons rfl .nil))) ?_
                                exact hJ13 r11 _ _ ⟨rfl, rfl⟩
                              · refine wo_not (tj := 131) (b := false) rfl (congrArg AV.bool hb27) rfl rfl ?_
                                refine wo_not (tj := 131) (b := false) rfl (congrArg AV.bool hb27) rfl rfl ?_
                                refine wo_not (tj := 131) (b := false) rfl (congrArg AV.bool hb27) rfl rfl ?_
                                refine wo_val (.bool false) rfl (pv_pick (t := false) (congrArg AV.bool hb27) rfl) ?_
                                refine wo_back1 ?_
                                refine wo_is [(14, (.sl 1 (List.map (rI .i64) r7.1))), (16, (.sl 1 (List.map (rI .i64) r8.1))), (135, (.bool false))] (.cons rfl (.cons rfl (.cons rfl .nil))) ?_
                                exact hJ13 false _ _ ⟨rfl, rfl⟩
                            · refine wo_valg (tj := 126) (.sl 1 (List.map (rI .i64) r4.1)) rfl (congrArg AV.bool hb25) rfl pv_move ?_
                              refine wo_opg (tj := 126) rfl (congrArg AV.bool hb25) rfl (fun _ _ => rfl) (fun K hK => eff_bsC (e := (rI .i64)) (L := [0]) (st := 1) (rows := [[(.int .i64 0)]]) ti34 ti3 rfl rfl rfl rfl rfl (.cons (RowSim.refl _) .nil) (fun x => ok_I x) rfl rfl (hK _ _ ?_)) 
                              clear hK K
                              refine of_call [(.sl 1 (List.map (rI .i64) r4.1)), (.sl 1 (List.map (rI .i64) [0]))] rfl (wanted_yes (tj := 126) rfl (congrArg AV.bool hb25)) rfl rfl ((cp_ref11_SameInts r4.1 [0]) _) (fun v _ => wu_pan Try.func8 hI) fun r10 _ => ?_
                              refine wo_val (.bool r10) rfl (pv_pick (t := true) (congrArg AV.bool hb25) rfl) ?_
                              refine wo_back1 ?_
                              refine wo_is [(10, (.sl 1 (List.map (rI .i64) r5.1))), (14, (.sl 1 (List.map (rI .i64) r7.1))), (16, (.sl 1 (List.map (rI .i64) r8.1))), (130, (.bool r10))] (.cons rfl (.cons rfl (.cons rfl (.cons rfl .nil)))) ?_
                              exact hJ12 r10 _ _ ⟨rfl, rfl⟩
                            · refine wo_not (tj := 126) (b := false) rfl (congrArg AV.bool hb25) rfl rfl ?_
                              refine wo_not (tj := 126) (b := false) rfl (congrArg AV.bool hb25) rfl rfl ?_
                              refine wo_not (tj := 126) (b := false) rfl (congrArg AV.bool hb25) rfl rfl ?_
                              refine wo_val (.bool false) rfl (pv_pick (t := false) (congrArg AV.bool hb25) rfl) ?_
                              refine wo_back1 ?_
                              refine wo_is [(10, (.sl 1 (List.map (rI .i64) r5.1))), (14, (.sl 1 (List.map (rI .i64) r7.1))), (16, (.sl 1 (List.map (rI .i64) r8.1))), (130, (.bool false))] (.cons rfl (.cons rfl (.cons rfl (.cons rfl .nil)))) ?_
                              exact hJ12 false _ _ ⟨rfl, rfl⟩
                          · refine wo_valg (tj := 121) (.sl 4 (List.map rLeg r3.1)) rfl (congrArg AV.bool hb23) rfl pv_move ?_
                            refine wo_valg (tj := 121) (.int .i64 (r3.1.length : Int)) rfl (congrArg AV.bool hb23) rfl (pv_len (len_sl ti39)) ?_
                            refine wo_valg (tj := 121) (.bool ((r3.1.length : Int) == 0)) rfl (congrArg AV.bool hb23) rfl (pv_bin rfl rfl rfl) ?_
                            refine wo_val (.bool ((r3.1.length : Int) == 0)) rfl (pv_pick (t := true) (congrArg AV.bool hb23) rfl) ?_
                            exact wo_is [(8, (.sl 1 (List.map (rI .i64) r4.1))), (10, (.sl 1 (List.map (rI .i64) r5.1))), (14, (.sl 1 (List.map (rI .i64) r7.1))), (16, (.sl 1 (List.map (rI .i64) r8.1))), (125, (.bool (b2 && ((r3.1.length : Int) == 0))))] (.cons rfl (.cons rfl (.cons rfl (.cons rfl (.cons (and_t hb23) .nil))))) hJ11
                          · refine wo_not (tj := 121) (b := false) rfl (congrArg AV.bool hb23) rfl rfl ?_
                            refine wo_not (tj := 121) (b := false) rfl (congrArg AV.bool hb23) rfl rfl ?_
                            refine wo_not (tj := 121) (b := false) rfl (congrArg AV.bool hb23) rfl rfl ?_
                            refine wo_val (.bool false) rfl (pv_pick (t := false) (congrArg AV.bool hb23) rfl) ?_
                            exact wo_is [(8, (.sl 1 (List.map (rI .i64) r4.1))), (10, (.sl 1 (List.map (rI .i64) r5.1))), (14, (.sl 1 (List.map (rI .i64) r7.1))), (16, (.sl 1 (List.map (rI .i64) r8.1))), (125, (.bool (b2 && ((r3.1.length : Int) == 0))))] (.cons rfl (.cons rfl (.cons rfl (.cons rfl (.cons (and_f hb23) .nil))))) hJ11
                        · refine wo_valg (tj := 113) (.sl 4 (List.map rLeg r2.1)) rfl (congrArg AV.bool hb21) rfl pv_move ?_
                          refine of_idx fun a2 hz2 hx3 => ?_
                          refine wo_valg (tj := 113) (.cp (rLeg a2) 0) rfl (congrArg AV.bool hb21) rfl (pv_ixa (ixa_sl ti39 ti52 rfl hz2 hx3)) ?_
                          refine wo_valg (tj := 113) (.cp (rLeg a2) 3) rfl (congrArg AV.bool hb21) rfl (pv_fa (fa_cp (c := 0) (off := 3) (i := 3) ti52 rfl ti35 rfl)) ?_
                          refine wo_valg (tj := 113) (.sl 2 (List.map rSpan a2.Minutes)) rfl (congrArg AV.bool hb21) rfl (pv_load (ld_cp ti35 rfl)) ?_
                          refine wo_valg (tj := 113) (.int .i64 (a2.Minutes.length : Int)) rfl (congrArg AV.bool hb21) rfl (pv_len (len_sl ti35)) ?_
                          refine wo_valg (tj := 113) (.bool ((a2.Minutes.length : Int) == 0)) rfl (congrArg AV.bool hb21) rfl (pv_bin rfl rfl rfl) ?_
                          refine wo_val (.bool ((a2.Minutes.length : Int) == 0)) rfl (pv_pick (t := true) (congrArg AV.bool hb21) rfl) ?_
                          refine wo_back1 ?_
                          refine wo_is [(6, (.sl 4 (List.map rLeg r3.1))), (8, (.sl 1 (List.map (rI .i64) r4.1))), (10, (.sl 1 (List.map (rI .i64) r5.1))), (14, (.sl 1 (List.map (rI .i64) r7.1))), (16, (.sl 1 (List.map (rI .i64) r8.1))), (120, (.bool ((a2.Minutes.length : Int) == 0)))] (.cons rfl (.cons rfl (.cons rfl (.cons rfl (.cons rfl (.cons rfl .nil)))))) ?_
                          exact hJ10 ((a2.Minutes.length : Int) == 0) _ _ ⟨rfl, rfl⟩
                        · refine wo_not (tj := 113) (b := false) rfl (congrArg AV.bool hb21) rfl rfl ?_
                          refine wo_not (tj := 113) (b := false) rfl (congrArg AV.bool hb21) rfl rfl ?_
                          refine wo_not (tj := 113) (b := false) rfl (congrArg AV.bool hb21) rfl rfl ?_
                          refine wo_not (tj := 113) (b := false) rfl (congrArg AV.bool hb21) rfl rfl ?_
                          refine wo_not (tj := 113) (b := false) rfl (congrArg AV.bool hb21) rfl rfl ?_
                          refine wo_not (tj := 113) (b := false) rfl (congrArg AV.bool hb21) rfl rfl ?_
                          refine wo_val (.bool false) rfl (pv_pick (t := false) (congrArg AV.bool hb21) rfl) ?_
                          refine wo_back1 ?_
                          refine wo_is [(6, (.sl 4 (List.map rLeg r3.1))), (8, (.sl 1 (List.map (rI .i64) r4.1))), (10, (.sl 1 (List.map (rI .i64) r5.1))), (14, (.sl 1 (List.map (rI .i64) r7.1))), (16, (.sl 1 (List.map (rI .i64) r8.1))), (120, (.bool false))] (.cons rfl (.cons rfl (.cons rfl (.cons rfl (.cons rfl (.cons rfl .nil)))))) ?_
                          exact hJ10 false _ _ ⟨rfl, rfl⟩
                      · refine wo_valg (tj := 106) (.sl 4 (List.map rLeg r2.1)) rfl (congrArg AV.bool hb19) rfl pv_move ?_
                        refine of_idx fun a1 hz1 hx2 => ?_
                        refine wo_valg (tj := 106) (.cp (rLeg a1) 0) rfl (congrArg AV.bool hb19) rfl (pv_ixa (ixa_sl ti39 ti52 rfl hz1 hx2)) ?_
                        refine wo_valg (tj := 106) (.cp (rLeg a1) 2) rfl (congrArg AV.bool hb19) rfl (pv_fa (fa_cp (c := 0) (off := 2) (i := 2) ti52 rfl ti3 rfl)) ?_
                        refine wo_valg (tj := 106) (.int .i64 a1.Length) rfl (congrArg AV.bool hb19) rfl (pv_load (ld_cp ti3 rfl)) ?_
                        refine wo_valg (tj := 106) (.bool (a1.Length == 40)) rfl (congrArg AV.bool hb19) rfl (pv_bin rfl rfl rfl) ?_
                        refine wo_val (.bool (a1.Length == 40)) rfl (pv_pick (t := true) (congrArg AV.bool hb19) rfl) ?_
                        refine wo_back1 ?_
                        refine wo_is [(4, (.sl 4 (List.map rLeg r2.1))), (6, (.sl 4 (List.map rLeg r3.1))), (8, (.sl 1 (List.map (rI .i64) r4.1))), (10, (.sl 1 (List.map (rI .i64) r5.1))), (14, (.sl 1 (List.map (rI .i64) r7.1))), (16, (.sl 1 (List.map (rI .i64) r8.1))), (112, (.bool (a1.Length == 40)))] (.cons rfl (.cons rfl (.cons rfl (.cons rfl (.cons rfl (.cons rfl (.cons rfl .nil))))))) ?_
                        exact hJ9 (a1.Length == 40) _ _ ⟨rfl, rfl⟩
                      · refine wo_not (tj := 106) (b := false) rfl (congrArg AV.bool hb19) rfl rfl ?_
                        refine wo_not (tj := 106) (b := false) rfl (congrArg AV.bool hb19) rfl rfl ?_
                        refine wo_not (tj := 106) (b := false) rfl (congrArg AV.bool hb19) rfl rfl ?_
                        refine wo_not (tj := 106) (b := false) rfl (congrArg AV.bool hb19) rfl rfl ?_
                        refine wo_not (tj := 106) (b := false) rfl (congrArg AV.bool hb19) rfl rfl ?_
                        refine wo_val (.bool false) rfl (pv_pick (t := false) (congrArg AV.bool hb19) rfl) ?_
                        refine wo_back1 ?_
                        refine wo_is [(4, (.sl 4 (List.map rLeg r2.1))), (6, (.sl 4 (List.map rLeg r3.1))), (8, (.sl 1 (List.map (rI .i64) r4.1))), (10, (.sl 1 (List.map (rI .i64) r5.1))), (14, (.sl 1 (List.map (rI .i64) r7.1))), (16, (.sl 1 (List.map (rI .i64) r8.1))), (112, (.bool false))] (.cons rfl (.cons rfl (.cons rfl (.cons rfl (.cons rfl (.cons rfl (.cons rfl .nil))))))) ?_
                        exact hJ9 false _ _ ⟨rfl, rfl⟩
                    · refine wo_valg (tj := 99) (.sl 4 (List.map rLeg r2.1)) rfl (congrArg AV.bool hb17) rfl pv_move ?_
                      refine of_idx fun a hz hx1 => ?_
                      refine wo_valg (tj := 99) (.cp (rLeg a) 0) rfl (congrArg AV.bool hb17) rfl (pv_ixa (ixa_sl ti39 ti52 rfl hz hx1)) ?_
                      refine wo_valg (tj := 99) (.cp (rLeg a) 1) rfl (congrArg AV.bool hb17) rfl (pv_fa (fa_cp (c := 0) (off := 1) (i := 1) ti52 rfl ti3 rfl)) ?_
                      refine wo_valg (tj := 99) (.int .i64 a.Volume) rfl (congrArg AV.bool hb17) rfl (pv_load (ld_cp ti3 rfl)) ?_
                      refine wo_valg (tj := 99) (.bool (a.Volume == 1)) rfl (congrArg AV.bool hb17) rfl (pv_bin rfl rfl rfl) ?_
                      refine wo_val (.bool (a.Volume == 1)) rfl (pv_pick (t := true) (congrArg AV.bool hb17) rfl) ?_
                      refine wo_back1 ?_
                      refine wo_is [(4, (.sl 4 (List.map rLeg r2.1))), (6, (.sl 4 (List.map rLeg r3.1))), (8, (.sl 1 (List.map (rI .i64) r4.1))), (10, (.sl 1 (List.map (rI .i64) r5.1))), (14, (.sl 1 (List.map (rI .i64) r7.1))), (16, (.sl 1 (List.map (rI .i64) r8.1))), (105, (.bool (a.Volume == 1)))] (.cons rfl (.cons rfl (.cons rfl (.cons rfl (.cons rfl (.cons rfl (.cons rfl .nil))))))) ?_
                      exact hJ8 (a.Volume == 1) _ _ ⟨rfl, rfl⟩
                    · refine wo_not (tj := 99) (b := false) rfl (congrArg AV.bool hb17) rfl rfl ?_
                      refine wo_not (tj := 99) (b := false) rfl (congrArg AV.bool hb17) rfl rfl ?_
                      refine wo_not (tj := 99) (b := false) rfl (congrArg AV.bool hb17) rfl rfl ?_
                      refine wo_not (tj := 99) (b := false) rfl (congrArg AV.bool hb17) rfl rfl ?_
                      refine wo_not (tj := 99) (b := false) rfl (congrArg AV.bool hb17) rfl rfl ?_
                      refine wo_val (.bool false) rfl (pv_pick (t := false) (congrArg AV.bool hb17) rfl) ?_
                      refine wo_back1 ?_
                      refine wo_is [(4, (.sl 4 (List.map rLeg r2.1))), (6, (.sl 4 (List.map rLeg r3.1))), (8, (.sl 1 (List.map (rI .i64) r4.1))), (10, (.sl 1 (List.map (rI .i64) r5.1))), (14, (.sl 1 (List.map (rI .i64) r7.1))), (16, (.sl 1 (List.map (rI .i64) r8.1))), (105, (.bool false))] (.cons rfl (.cons rfl (.cons rfl (.cons rfl (.cons rfl (.cons rfl (.cons rfl .nil))))))) ?_
                      exact hJ8 false _ _ ⟨rfl, rfl⟩
                · refine wo_not (tj := 89) (b := true) rfl (congrArg AV.bool hb15) rfl rfl ?_
                  refine wo_not (tj := 89) (b := true) rfl (congrArg AV.bool hb15) rfl rfl ?_
                  refine wo_not (tj := 89) (b := true) rfl (congrArg AV.bool hb15) rfl rfl ?_
                  refine wo_val (.bool true) rfl (pv_pick (t := true) (congrArg AV.bool hb15) rfl) ?_
                  exact wo_is [(2, (.sl 2 (List.map rSpan r1.1))), (4, (.sl 4 (List.map rLeg r2.1))), (6, (.sl 4 (List.map rLeg r3.1))), (8, (.sl 1 (List.map (rI .i64) r4.1))), (10, (.sl 1 (List.map (rI .i64) r5.1))), (14, (.sl 1 (List.map (rI .i64) r7.1))), (16, (.sl 1 (List.map (rI .i64) r8.1))), (93, (.bool (((((((((r1.2 != 0) || (r2.2 != 0)) || (r3.2 != 0)) || (r4.2 != 0)) || (r5.2 != 0)) || (r6.2 != 1)) || (r7.2 != 0)) || (r8.2 != 0)) || ((r2.1.length : Int) != 2))))] (.cons rfl (.cons rfl (.cons rfl (.cons rfl (.cons rfl (.cons rfl (.cons rfl (.cons (or_t hb15) .nil)))))))) hJ7
                · refine wo_valg (tj := 89) (.sl 4 (List.map rLeg r2.1)) rfl (congrArg AV.bool hb15) rfl pv_move ?_
                  refine wo_valg (tj := 89) (.int .i64 (r2.1.length : Int)) rfl (congrArg AV.bool hb15) rfl (pv_len (len_sl ti39)) ?_
                  refine wo_valg (tj := 89) (.bool ((r2.1.length : Int) != 2)) rfl (congrArg AV.bool hb15) rfl (pv_bin rfl rfl rfl) ?_
                  refine wo_val (.bool ((r2.1.length : Int) != 2)) rfl (pv_pick (t := false) (congrArg AV.bool hb15) rfl) ?_
                  exact wo_is [(2, (.sl 2 (List.map rSpan r1.1))), (4, (.sl 4 (List.map rLeg r2.1))), (6, (.sl 4 (List.map rLeg r3.1))), (8, (.sl 1 (List.map (rI .i64) r4.1))), (10, (.sl 1 (List.map (rI .i64) r5.1))), (14, (.sl 1 (List.map (rI .i64) r7.1))), (16, (.sl 1 (List.map (rI .i64) r8.1))), (93, (.bool (((((((((r1.2 != 0) || (r2.2 != 0)) || (r3.2 != 0)) || (r4.2 != 0)) || (r5.2 != 0)) || (r6.2 != 1)) || (r7.2 != 0)) || (r8.2 != 0)) || ((r2.1.length : Int) != 2))))] (.cons rfl (.cons rfl (.cons rfl (.cons rfl (.cons rfl (.cons rfl (.cons rfl (.cons (or_f hb15) .nil)))))))) hJ7
              · refine wo_not (tj := 85) (b := true) rfl (congrArg AV.bool hb13) rfl rfl ?_
                refine wo_not (tj := 85) (b := true) rfl (congrArg AV.bool hb13) rfl rfl ?_
                refine wo_val (.bool true) rfl (pv_pick (t := true) (congrArg AV.bool hb13) rfl) ?_
                exact wo_is [(2, (.sl 2 (List.map rSpan r1.1))), (4, (.sl 4 (List.map rLeg r2.1))), (6, (.sl 4 (List.map rLeg r3.1))), (8, (.sl 1 (List.map (rI .i64) r4.1))), (10, (.sl 1 (List.map (rI .i64) r5.1))), (14, (.sl 1 (List.map (rI .i64) r7.1))), (16, (.sl 1 (List.map (rI .i64) r8.1))), (88, (.bool ((((((((r1.2 != 0) || (r2.2 != 0)) || (r3.2 != 0)) || (r4.2 != 0)) || (r5.2 != 0)) || (r6.2 != 1)) || (r7.2 != 0)) || (r8.2 != 0))))] (.cons rfl (.cons rfl (.cons rfl (.cons rfl (.cons rfl (.cons rfl (.cons rfl (.cons (or_t hb13) .nil)))))))) hJ6
              · refine wo_valg (tj := 85) (.int .i64 r8.2) rfl (congrArg AV.bool hb13) rfl pv_move ?_
                refine wo_valg (tj := 85) (.bool (r8.2 != 0)) rfl (congrArg AV.bool hb13) rfl (pv_bin rfl rfl rfl) ?_
                refine wo_val (.bool (r8.2 != 0)) rfl (pv_pick (t := false) (congrArg AV.bool hb13) rfl) ?_
                exact wo_is [(2, (.sl 2 (List.map rSpan r1.1))), (4, (.sl 4 (List.map rLeg r2.1))), (6, (.sl 4 (List.map rLeg r3.1))), (8, (.sl 1 (List.map (rI .i64) r4.1))), (10, (.sl 1 (List.map (rI .i64) r5.1))), (14, (.sl 1 (List.map (rI .i64) r7.1))), (16, (.sl 1 (List.map (rI .i64) r8.1))), (88, (.bool ((((((((r1.2 != 0) || (r2.2 != 0)) || (r3.2 != 0)) || (r4.2 != 0)) || (r5.2 != 0)) || (r6.2 != 1)) || (r7.2 != 0)) || (r8.2 != 0))))] (.cons rfl (.cons rfl (.cons rfl (.cons rfl (.cons rfl (.cons rfl (.cons rfl (.cons (or_f hb13) .nil)))))))) hJ6
            · refine wo_not (tj := 81) (b := true) rfl (congrArg AV.bool hb11) rfl rfl ?_
              refine wo_not (tj := 81) (b := true) rfl (congrArg AV.bool hb11) rfl rfl ?_
              refine wo_val (.bool true) rfl (pv_pick (t := true) (congrArg AV.bool hb11) rfl) ?_
              exact wo_is [(2, (.sl 2 (List.map rSpan r1.1))), (4, (.sl 4 (List.map rLeg r2.1))), (6, (.sl 4 (List.map rLeg r3.1))), (8, (.sl 1 (List.map (rI .i64) r4.1))), (10, (.sl 1 (List.map (rI .i64) r5.1))), (14, (.sl 1 (List.map (rI .i64) r7.1))), (16, (.sl 1 (List.map (rI .i64) r8.1))), (17, (.int .i64 r8.2)), (84, (.bool (((((((r1.2 != 0) || (r2.2 != 0)) || (r3.2 != 0)) || (r4.2 != 0)) || (r5.2 != 0)) || (r6.2 != 1)) || (r7.2 != 0))))] (.cons rfl (.cons rfl (.cons rfl (.cons rfl (.cons rfl (.cons rfl (.cons rfl (.cons rfl (.cons (or_t hb11) .nil))))))))) hJ5
            · refine wo_valg (tj := 81) (.int .i64 r7.2) rfl (congrArg AV.bool hb11) rfl pv_move ?_
              refine wo_valg (tj := 81) (.bool (r7.2 != 0)) rfl (congrArg AV.bool hb11) rfl (pv_bin rfl rfl rfl) ?_
              refine wo_val (.bool (r7.2 != 0)) rfl (pv_pick (t := false) (congrArg AV.bool hb11) rfl) ?_
              exact wo_is [(2, (.sl 2 (List.map rSpan r1.1))), (4, (.sl 4 (List.map rLeg r2.1))), (6, (.sl 4 (List.map rLeg r3.1))), (8, (.sl 1 (List.map (rI .i64) r4.1))), (10, (.sl 1 (List.map (rI .i64) r5.1))), (14, (.sl 1 (List.map (rI .i64) r7.1))), (16, (.sl 1 (List.map (rI .i64) r8.1))), (17, (.int .i64 r8.2)), (84, (.bool (((((((r1.2 != 0) || (r2.2 != 0)) || (r3.2 != 0)) || (r4.2 != 0)) || (r5.2 != 0)) || (r6.2 != 1)) || (r7.2 != 0))))] (.cons rfl (.cons rfl (.cons rfl (.cons rfl (.cons rfl (.cons rfl (.cons rfl (.cons rfl (.cons (or_f hb11) .nil))))))))) hJ5
          · refine wo_not (tj := 77) (b := true) rfl (congrArg AV.bool hb9) rfl rfl ?_
            refine wo_not (tj := 77) (b := true) rfl (congrArg AV.bool hb9) rfl rfl ?_
            refine wo_val (.bool true) rfl (pv_pick (t := true) (congrArg AV.bool hb9) rfl) ?_
            exact wo_is [(2, (.sl 2 (List.map rSpan r1.1))), (4, (.sl 4 (List.map rLeg r2.1))), (6, (.sl 4 (List.map rLeg r3.1))), (8, (.sl 1 (List.map (rI .i64) r4.1))), (10, (.sl 1 (List.map (rI .i64) r5.1))), (14, (.sl 1 (List.map (rI .i64) r7.1))), (15, (.int .i64 r7.2)), (16, (.sl 1 (List.map (rI .i64) r8.1))), (17, (.int .i64 r8.2)), (80, (.bool ((((((r1.2 != 0) || (r2.2 != 0)) || (r3.2 != 0)) || (r4.2 != 0)) || (r5.2 != 0)) || (r6.2 != 1))))] (.cons rfl (.cons rfl (.cons rfl (.cons rfl (.cons rfl (.cons rfl (.cons rfl (.cons rfl (.cons rfl (.cons (or_t hb9) .nil)))))))))) hJ4
          · refine wo_valg (tj := 77) (.int .i64 r6.2) rfl (congrArg AV.bool hb9) rfl pv_move ?_
            refine wo_valg (tj := 77) (.bool (r6.2 != 1)) rfl (congrArg AV.bool hb9) rfl (pv_bin rfl rfl rfl) ?_
            refine wo_val (.bool (r6.2 != 1)) rfl (pv_pick (t := false) (congrArg AV.bool hb9) rfl) ?_
            exact wo_is [(2, (.sl 2 (List.map rSpan r1.1))), (4, (.sl 4 (List.map rLeg r2.1))), (6, (.sl 4 (List.map rLeg r3.1))), (8, (.sl 1 (List.map (rI .i64) r4.1))), (10, (.sl 1 (List.map (rI .i64) r5.1))), (14, (.sl 1 (List.map (rI .i64) r7.1))), (15, (.int .i64 r7.2)), (16, (.sl 1 (List.map (rI .i64) r8.1))), (17, (.int .i64 r8.2)), (80, (.bool ((((((r1.2 != 0) || (r2.2 != 0)) || (r3.2 != 0)) || (r4.2 != 0)) || (r5.2 != 0)) || (r6.2 != 1))))] (.cons rfl (.cons rfl (.cons rfl (.cons rfl (.cons rfl (.cons rfl (.cons rfl (.cons rfl (.cons rfl (.cons (or_f hb9) .nil)))))))))) hJ4
        · refine wo_not (tj := 73) (b := true) rfl (congrArg AV.bool hb7) rfl rfl ?_
          refine wo_not (tj := 73) (b := true) rfl (congrArg AV.bool hb7) rfl rfl ?_
          refine wo_val (.bool true) rfl (pv_pick (t := true) (congrArg AV.bool hb7) rfl) ?_
          exact wo_is [(2, (.sl 2 (List.map rSpan r1.1))), (4, (.sl 4 (List.map rLeg r2.1))), (6, (.sl 4 (List.map rLeg r3.1))), (8, (.sl 1 (List.map (rI .i64) r4.1))), (10, (.sl 1 (List.map (rI .i64) r5.1))), (13, (.int .i64 r6.2)), (14, (.sl 1 (List.map (rI .i64) r7.1))), (15, (.int .i64 r7.2)), (16, (.sl 1 (List.map (rI .i64) r8.1))), (17, (.int .i64 r8.2)), (76, (.bool (((((r1.2 != 0) || (r2.2 != 0)) || (r3.2 != 0)) || (r4.2 != 0)) || (r5.2 != 0))))] (.cons rfl (.cons rfl (.cons rfl (.cons rfl (.cons rfl (.cons rfl (.cons rfl (.cons rfl (.cons rfl (.cons rfl (.cons (or_t hb7) .nil))))))))))) hJ3
        · refine wo_valg (tj := 73) (.int .i64 r5.2) rfl (congrArg AV.bool hb7) rfl pv_move ?_
          refine wo_valg (tj := 73) (.bool (r5.2 != 0)) rfl (congrArg AV.bool hb7) rfl (pv_bin rfl rfl rfl) ?_
          refine wo_val (.bool (r5.2 != 0)) rfl (pv_pick (t := false) (congrArg AV.bool hb7) rfl) ?_
          exact wo_is [(2, (.sl 2 (List.map rSpan r1.1))), (4, (.sl 4 (List.map rLeg r2.1))), (6, (.sl 4 (List.map rLeg r3.1))), (8, (.sl 1 (List.map (rI .i64) r4.1))), (10, (.sl 1 (List.map (rI .i64) r5.1))), (13, (.int .i64 r6.2)), (14, (.sl 1 (List.map (rI .i64) r7.1))), (15, (.int .i64 r7.2)), (16, (.sl 1 (List.map (rI .i64) r8.1))), (17, (.int .i64 r8.2)), (76, (.bool (((((r1.2 != 0) || (r2.2 != 0)) || (r3.2 != 0)) || (r4.2 != 0)) || (r5.2 != 0))))] (.cons rfl (.cons rfl (.cons rfl (.cons rfl (.cons rfl (.cons rfl (.cons rfl (.cons rfl (.cons rfl (.cons rfl (.cons (or_f hb7) .nil))))))))))) hJ3
      · refine wo_not (tj := 69) (b := true) rfl (congrArg AV.bool hb5) rfl rfl ?_
        refine wo_not (tj := 69) (b := true) rfl (congrArg AV.bool hb5) rfl rfl ?_
        refine wo_val (.bool true) rfl (pv_pick (t := true) (congrArg AV.bool hb5) rfl) ?_
        exact wo_is [(2, (.sl 2 (List.map rSpan r1.1))), (4, (.sl 4 (List.map rLeg r2.1))), (6, (.sl 4 (List.map rLeg r3.1))), (8, (.sl 1 (List.map (rI .i64) r4.1))), (10, (.sl 1 (List.map (rI .i64) r5.1))), (11, (.int .i64 r5.2)), (13, (.int .i64 r6.2)), (14, (.sl 1 (List.map (rI .i64) r7.1))), (15, (.int .i64 r7.2)), (16, (.sl 1 (List.map (rI .i64) r8.1))), (17, (.int .i64 r8.2)), (72, (.bool ((((r1.2 != 0) || (r2.2 != 0)) || (r3.2 != 0)) || (r4.2 != 0))))] (.cons rfl (.cons rfl (.cons rfl (.cons rfl (.cons rfl (.cons rfl (.cons rfl (.cons rfl (.cons rfl (.cons rfl (.cons rfl (.cons (or_t hb5) .nil)))))))))))) hJ2
      · refine wo_valg (tj := 69) (.int .i64 r4.2) rfl (congrArg AV.bool hb5) rfl pv_move ?_
        refine wo_valg (tj := 69) (.bool (r4.2 != 0)) rfl (congrArg AV.bool hb5) rfl (pv_bin rfl rfl rfl) ?_
        refine wo_val (.bool (r4.2 != 0)) rfl (pv_pick (t := false) (congrArg AV.bool hb5) rfl) ?_
        exact wo_is [(2, (.sl 2 (List.map rSpan r1.1))), (4, (.sl 4 (List.map rLeg r2.1))), (6, (.sl 4 (List.map rLeg r3.1))), (8, (.sl 1 (List.map (rI .i64) r4.1))), (10, (.sl 1 (List.map (rI .i64) r5.1))), (11, (.int .i64 r5.2)), (13, (.int .i64 r6.2)), (14, (.sl 1 (List.map (rI .i64) r7.1))), (15, (.int .i64 r7.2)), (16, (.sl 1 (List.map (rI .i64) r8.1))), (17, (.int .i64 r8.2)), (72, (.bool ((((r1.2 != 0) || (r2.2 != 0)) || (r3.2 != 0)) || (r4.2 != 0))))] (.cons rfl (.cons rfl (.cons rfl (.cons rfl (.cons rfl (.cons rfl (.cons rfl (.cons rfl (.cons rfl (.cons rfl (.cons rfl (.cons (or_f hb5) .nil)))))))))))) hJ2
    · refine wo_not (tj := 65) (b := true) rfl (congrArg AV.bool hb3) rfl rfl ?_
      refine wo_not (tj := 65) (b := true) rfl (congrArg AV.bool hb3) rfl rfl ?_
      refine wo_val (.bool true) rfl (pv_pick (t := true) (congrArg AV.bool hb3) rfl) ?_
      exact wo_is [(2, (.sl 2 (List.map rSpan r1.1))), (4, (.sl 4 (List.map rLeg r2.1))), (6, (.sl 4 (List.map rLeg r3.1))), (8, (.sl 1 (List.map (rI .i64) r4.1))), (9, (.int .i64 r4.2)), (10, (.sl 1 (List.map (rI .i64) r5.1))), (11, (.int .i64 r5.2)), (13, (.int .i64 r6.2)), (14, (.sl 1 (List.map (rI .i64) r7.1))), (15, (.int .i64 r7.2)), (16, (.sl 1 (List.map (rI .i64) r8.1))), (17, (.int .i64 r8.2)), (68, (.bool (((r1.2 != 0) || (r2.2 != 0)) || (r3.2 != 0))))] (.cons rfl (.cons rfl (.cons rfl (.cons rfl (.cons rfl (.cons rfl (.cons rfl (.cons rfl (.cons rfl (.cons rfl (.cons rfl (.cons rfl (.cons (or_t hb3) .nil))))))))))))) hJ1
    · refine wo_valg (tj := 65) (.int .i64 r3.2) rfl (congrArg AV.bool hb3) rfl pv_move ?_
      refine wo_valg (tj := 65) (.bool (r3.2 != 0)) rfl (congrArg AV.bool hb3) rfl (pv_bin rfl rfl rfl) ?_
      refine wo_val (.bool (r3.2 != 0)) rfl (pv_pick (t := false) (congrArg AV.bool hb3) rfl) ?_
      exact wo_is [(2, (.sl 2 (List.map rSpan r1.1))), (4, (.sl 4 (List.map rLeg r2.1))), (6, (.sl 4 (List.map rLeg r3.1))), (8, (.sl 1 (List.map (rI .i64) r4.1))), (9, (.int .i64 r4.2)), (10, (.sl 1 (List.map (rI .i64) r5.1))), (11, (.int .i64 r5.2)), (13, (.int .i64 r6.2)), (14, (.sl 1 (List.map (rI .i64) r7.1))), (15, (.int .i64 r7.2)), (16, (.sl 1 (List.map (rI .i64) r8.1))), (17, (.int .i64 r8.2)), (68, (.bool (((r1.2 != 0) || (r2.2 != 0)) || (r3.2 != 0))))] (.cons rfl (.cons rfl (.cons rfl (.cons rfl (.cons rfl (.cons rfl (.cons rfl (.cons rfl (.cons rfl (.cons rfl (.cons rfl (.cons rfl (.cons (or_f hb3) .nil))))))))))))) hJ1
  · refine wo_not (tj := 61) (b := true) rfl (congrArg AV.bool hb1) rfl rfl ?_
    refine wo_not (tj := 61) (b := true) rfl (congrArg AV.bool hb1) rfl rfl ?_
    refine wo_val (.bool true) rfl (pv_pick (t := true) (congrArg AV.bool hb1) rfl) ?_
    exact wo_is [(2, (.sl 2 (List.map rSpan r1.1))), (4, (.sl 4 (List.map rLeg r2.1))), (6, (.sl 4 (List.map rLeg r3.1))), (7, (.int .i64 r3.2)), (8, (.sl 1 (List.map (rI .i64) r4.1))), (9, (.int .i64 r4.2)), (10, (.sl 1 (List.map (rI .i64) r5.1))), (11, (.int .i64 r5.2)), (13, (.int .i64 r6.2)), (14, (.sl 1 (List.map (rI .i64) r7.1))), (15, (.int .i64 r7.2)), (16, (.sl 1 (List.map (rI .i64) r8.1))), (17, (.int .i64 r8.2)), (64, (.bool ((r1.2 != 0) || (r2.2 != 0))))] (.cons rfl (.cons rfl (.cons rfl (.cons rfl (.cons rfl (.cons rfl (.cons rfl (.cons rfl (.cons rfl (.cons rfl (.cons rfl (.cons rfl (.cons rfl (.cons (or_t hb1) .nil)))))))))))))) hJ
  · refine wo_valg (tj := 61) (.int .i64 r2.2) rfl (congrArg AV.bool hb1) rfl pv_move ?_
    refine wo_valg (tj := 61) (.bool (r2.2 != 0)) rfl (congrArg AV.bool hb1) rfl (pv_bin rfl rfl rfl) ?_
    refine wo_val (.bool (r2.2 != 0)) rfl (pv_pick (t := false) (congrArg AV.bool hb1) rfl) ?_
    exact wo_is [(2, (.sl 2 (List.map rSpan r1.1))), (4, (.sl 4 (List.map rLeg r2.1))), (6, (.sl 4 (List.map rLeg r3.1))), (7, (.int .i64 r3.2)), (8, (.sl 1 (List.map (rI .i64) r4.1))), (9, (.int .i64 r4.2)), (10, (.sl 1 (List.map (rI .i64) r5.1))), (11, (.int .i64 r5.2)), (13, (.int .i64 r6.2)), (14, (.sl 1 (List.map (rI .i64) r7.1))), (15, (.int .i64 r7.2)), (16, (.sl 1 (List.map (rI .i64) r8.1))), (17, (.int .i64 r8.2)), (64, (.bool ((r1.2 != 0) || (r2.2 != 0))))] (.cons rfl (.cons rfl (.cons rfl (.cons rfl (.cons rfl (.cons rfl (.cons rfl (.cons rfl (.cons rfl (.cons rfl (.cons rfl (.cons rfl (.cons rfl (.cons (or_f hb1) .nil)))))))))))))) hJ
end Go.Am

/- The models hold of the program. Written by dc.py. -/
import Derived.Test.YtomgekeihfaohaaDoorLxW0
namespace Go.Am
open Go Go.Proofs
set_option maxRecDepth 100000
set_option linter.unusedSimpArgs false
set_option linter.unusedVariables false
theorem cp_ref07_Figure (c : Int) : CP Tryd.prog 33 [(.int .u8 c)] (ref07_Figure c) (fun (x : Bool) => (AV.bool x)) := by
  refine cp_intro (n := 9) 0 Tryd.func33 rfl (by decide) rfl rfl fun h0 ids hI => ?_
  refine wr_in (wr_mod (ref07_Figure.eq_1 _) ?_)
  refine wr_seq ?_
  refine wr_region ?_
  refine wo_val (.bool false) rfl pv_assign ?_
  refine wo_nil ?_
  refine wr_seq ?_
  refine wr_region ?_
  refine wo_val (.int .u8 c) rfl pv_move ?_
  refine wo_val (.bool (decide (c ≥ 48))) rfl (pv_bin rfl rfl rfl) ?_
  refine wo_val (.bool (decide (c ≥ 48))) rfl pv_move ?_
  refine wo_meet 3 [(8, (.bool ((decide (c ≥ 48)) && (decide (c ≤ 57)))))] ?_ fun hJ => wo_cases (decide (c ≥ 48)) (fun hb1 => ?_) (fun hb1 => ?_)
  · refine wo_val (.bool ((decide (c ≥ 48)) && (decide (c ≤ 57)))) rfl pv_assign ?_
    refine wo_nil ?_
    exact wr_ret (a := ((decide (c ≥ 48)) && (decide (c ≤ 57)))) (vs := [(.bool ((decide (c ≥ 48)) && (decide (c ≤ 57))))]) Tryd.func33 hI rfl (.same _)
  · refine wo_valg (tj := 5) (.int .u8 c) rfl (congrArg AV.bool hb1) rfl pv_move ?_
    refine wo_valg (tj := 5) (.bool (decide (c ≤ 57))) rfl (congrArg AV.bool hb1) rfl (pv_bin rfl rfl rfl) ?_
    refine wo_val (.bool (decide (c ≤ 57))) rfl (pv_pick (t := true) (congrArg AV.bool hb1) rfl) ?_
    exact wo_is [(8, (.bool ((decide (c ≥ 48)) && (decide (c ≤ 57)))))] (.cons (and_t hb1) .nil) hJ
  · refine wo_not (tj := 5) (b := false) rfl (congrArg AV.bool hb1) rfl rfl ?_
    refine wo_not (tj := 5) (b := false) rfl (congrArg AV.bool hb1) rfl rfl ?_
    refine wo_val (.bool false) rfl (pv_pick (t := false) (congrArg AV.bool hb1) rfl) ?_
    exact wo_is [(8, (.bool ((decide (c ≥ 48)) && (decide (c ≤ 57)))))] (.cons (and_f hb1) .nil) hJ

theorem cp_ref07_part (c : Int) : CP Tryd.prog 32 [(.int .u8 c)] (ref07_part c) (fun (x : Bool) => (AV.bool x)) := by
  refine cp_intro (n := 13) 0 Tryd.func32 rfl (by decide) rfl rfl fun h0 ids hI => ?_
  refine wr_in (wr_mod (ref07_part.eq_1 _) ?_)
  refine wr_seq ?_
  refine wr_region ?_
  refine wo_val (.bool false) rfl pv_assign ?_
  refine wo_nil ?_
  refine wr_seq ?_
  refine wr_region ?_
  refine wo_val (.int .u8 c) rfl pv_move ?_
  refine of_call [(.int .u8 c)] rfl rfl rfl rfl ((cp_ref07_Letter c) _) (fun v _ => wu_pan Tryd.func32 hI) fun r _ => ?_
  refine wo_val (.bool r) rfl pv_move ?_
  refine wo_join 3 ((fun (b : Bool) => .ok (b || (c == 95))) : Bool → R Bool) (fun (b : Bool) (fr : Nat → AV) (h : AHeap) => fr = frA [(0, (.int .u8 c)), (8, (.bool b))] ∧ h = hp h0 ids []) ?_ fun hJ => of_if1 (fun hb1 => ?_) (fun hb1 => ?_)
  · rintro b fr h ⟨rfl, rfl⟩
    refine wo_val (.bool b) rfl pv_move ?_
    refine wo_meet 3 [(12, (.bool (b || (c == 95))))] ?_ fun hJ1 => wo_cases b (fun hb3 => ?_) (fun hb3 => ?_)
    · refine wo_val (.bool (b || (c == 95))) rfl pv_assign ?_
      refine wo_nil ?_
      exact wr_ret (a := (b || (c == 95))) (vs := [(.bool (b || (c == 95)))]) Tryd.func32 hI rfl (.same _)
    · refine wo_not (tj := 9) (b := true) rfl (congrArg AV.bool hb3) rfl rfl ?_
      refine wo_not (tj := 9) (b := true) rfl (congrArg AV.bool hb3) rfl rfl ?_
      refine wo_val (.bool true) rfl (pv_pick (t := true) (congrArg AV.bool hb3) rfl) ?_
      exact wo_is [(12, (.bool (b || (c == 95))))] (.cons (or_t hb3) .nil) hJ1
    · refine wo_valg (tj := 9) (.int .u8 c) rfl (congrArg AV.bool hb3) rfl pv_move ?_
      refine wo_valg (tj := 9) (.bool (c == 95)) rfl (congrArg AV.bool hb3) rfl (pv_bin rfl rfl rfl) ?_
      refine wo_val (.bool (c == 95)) rfl (pv_pick (t := false) (congrArg AV.bool hb3) rfl) ?_
      exact wo_is [(12, (.bool (b || (c == 95))))] (.cons (or_f hb3) .nil) hJ1
  · refine wo_not (tj := 5) (b := true) rfl (congrArg AV.bool hb1) rfl rfl ?_
    refine wo_not (tj := 5) (b := true) rfl (congrArg AV.bool hb1) rfl rfl ?_
    refine wo_val (.bool true) rfl (pv_pick (t := true) (congrArg AV.bool hb1) rfl) ?_
    refine wo_back1 ?_
    refine wo_is [(0, (.int .u8 c)), (8, (.bool true))] (.cons rfl (.cons rfl .nil)) ?_
    exact hJ true _ _ ⟨rfl, rfl⟩
  · refine wo_valg (tj := 5) (.int .u8 c) rfl (congrArg AV.bool hb1) rfl pv_move ?_
    refine of_call [(.int .u8 c)] rfl (wanted_yes (tj := 5) rfl (congrArg AV.bool hb1)) rfl rfl ((cp_ref07_Figure c) _) (fun v _ => wu_pan Tryd.func32 hI) fun r1 _ => ?_
    refine wo_val (.bool r1) rfl (pv_pick (t := false) (congrArg AV.bool hb1) rfl) ?_
    refine wo_back1 ?_
    refine wo_is [(0, (.int .u8 c)), (8, (.bool r1))] (.cons rfl (.cons rfl .nil)) ?_
    exact hJ r1 _ _ ⟨rfl, rfl⟩

theorem cp_ref07_Name (s : Str) : CP Tryd.prog 21 [(.str s)] (ref07_Name s) (fun (x : Bool) => (AV.bool x)) := by
  refine cp_intro (n := 29) 0 Tryd.func21 rfl (by decide) rfl rfl fun h0 ids hI => ?_
  refine wr_in (wr_mod (ref07_Name.eq_1 _) ?_)
  refine wr_seq ?_
  refine wr_region ?_
  refine wo_val (.bool false) rfl pv_assign ?_
  refine wo_nil ?_
  refine wr_seq ?_
  refine wr_seq ?_
  refine wr_region ?_
  refine wo_val (.str s) rfl pv_move ?_
  refine wo_val (.int .i64 (s.length : Int)) rfl (pv_len (len_str ti9)) ?_
  refine wo_val (.bool (decide ((s.length : Int) < 1))) rfl (pv_bin rfl rfl rfl) ?_
  refine wo_val (.bool (decide ((s.length : Int) < 1))) rfl pv_move ?_
  refine wo_meet 4 [(0, (.str s)), (11, (.bool ((decide ((s.length : Int) < 1)) || (decide ((s.length : Int) > 32)))))] ?_ fun hJ => wo_cases (decide ((s.length : Int) < 1)) (fun hb1 => ?_) (fun hb1 => ?_)
  · refine wo_val (.bool ((decide ((s.length : Int) < 1)) || (decide ((s.length : Int) > 32)))) rfl pv_move ?_
    refine wo_join 5 ((fun (b : Bool) => if b then
(.ok false)
else
(if s.length ≤ LIM then
((each (fun _ a1 => fun _ => ref07_Name_b1 a1) 0 s ()).bind (alt (fun _ => .ok true) (fun r => .ok r))) else .bad)) : Bool → R Bool) (fun (b : Bool) (fr : Nat → AV) (h : AHeap) => fr = frA [(0, (.str s)), (17, (.bool b))] ∧ h = hp h0 ids []) ?_ fun hJ1 => of_if1 (fun hb3 => ?_) (fun hb3 => ?_)
    · rintro b fr h ⟨rfl, rfl⟩
      refine wo_nil ?_
      refine wf_iteb rfl (fun hc => ?_) (fun hc => ?_)
      · refine wr_seq ?_
        refine wr_region ?_
        refine wo_val (.bool false) rfl pv_assign ?_
        refine wo_nil ?_
        exact wr_ret (a := false) (vs := [(.bool false)]) Tryd.func21 hI rfl (.same _)
      · refine wr_skip ?_
        refine wr_seq ?_
        refine wr_seq ?_
        refine wr_region ?_
        refine wo_val (.int .i64 0) rfl pv_assign ?_
        refine wo_nil ?_
        refine wr_block ?_
        refine wr_need fun hlim => ?_
        refine wr_is [(0, (.str s)), (3, (.int .i64 0))] (.cons rfl (.cons rfl .nil)) ?_
        refine wf_each' (P := Tryd.prog) s (fun _ a1 => fun _ => ref07_Name_b1 a1) ((alt (fun _ => .ok true) (fun r => .ok r)) : (Unit ⊕ Bool) → R Bool)
          (fun j => fun _ => fun (fr : Nat → AV) (h : AHeap) => fr = frA [(0, (.str s)), (3, (.int .i64 (j : Int)))] ∧ h = hp h0 ids []) () ?_ ?_ ?_
        · exact ⟨rfl, rfl⟩
        · rintro j a1 ha1 W hW _ fr h ⟨rfl, rfl⟩
          refine wr_mod (m' := ref07_Name_b1 a1) rfl (wr_mod (ref07_Name_b1.eq_1 _) ?_)
          refine wr_seq ?_
          refine wr_seq ?_
          refine wr_region ?_
          refine wo_val (.int .i64 (j : Int)) rfl pv_move ?_
          refine wo_val (.str s) rfl pv_move ?_
          refine wo_val (.int .i64 (s.length : Int)) rfl (pv_len (len_str ti9)) ?_
          refine wo_val (.bool (decide ((j : Int) < (s.length : Int)))) rfl (pv_bin rfl rfl rfl) ?_
          refine wo_nil ?_
          refine wr_condT rfl (Int.ofNat_lt.2 (lt_of_get ha1)) ?_
          refine wr_skip ?_
          refine wr_seq ?_
          refine wr_block ?_
          refine wr_seq ?_
          refine wr_region ?_
          refine wo_val (.str s) rfl pv_move ?_
          refine wo_val (.int .i64 (j : Int)) rfl pv_move ?_
          refine wo_val (.int .u8 (a1.toNat : Int)) rfl (pv_ix (ix_strn ti9 ha1)) ?_
          refine of_call [(.int .u8 (a1.toNat : Int))] rfl rfl rfl rfl ((cp_ref07_part (a1.toNat : Int)) _) (fun v _ => wu_pan Tryd.func21 hI) fun r1 _ => ?_
          refine wo_val (.bool (!r1)) rfl (pv_un rfl) ?_
          refine wo_nil ?_
          refine wf_itebn rfl (fun hc1 => ?_) (fun hc1 => ?_)
          · refine wr_skip ?_
            refine wr_inBlock ?_
            refine wr_region ?_
            refine wo_val (.int .i64 (j : Int)) rfl pv_move ?_
            refine wo_val (.int .i64 (IntKind.wrap .i64 ((j : Int) + 1))) rfl (pv_bin rfl rfl rfl) ?_
            refine wo_val (.int .i64 (IntKind.wrap .i64 ((j : Int) + 1))) rfl pv_assign ?_
            refine wo_nil ?_
            refine wr_is [(0, (.str s)), (3, (.int .i64 ((j + 1 : Nat) : Int)))] (.cons rfl (.cons (inc_ok (lt_of_get ha1) hlim) .nil)) ?_
            refine wb_each ?_
            refine hW () _ _ ?_
            exact ⟨rfl, rfl⟩
          · refine wr_seq ?_
            refine wr_region ?_
            refine wo_val (.bool false) rfl pv_assign ?_
            refine wo_nil ?_
            refine wx_each ?_
            refine w_altr ?_
            exact wr_ret (a := false) (vs := [(.bool false)]) Tryd.func21 hI rfl (.same _)
        · rintro _ fr h ⟨rfl, rfl⟩
          refine wr_mod (alt_inl _ _ _) ?_
          refine wr_seq ?_
          refine wr_seq ?_
          refine wr_region ?_
          refine wo_val (.int .i64 (s.length : Int)) rfl pv_move ?_
          refine wo_val (.str s) rfl pv_move ?_
          refine wo_val (.int .i64 (s.length : Int)) rfl (pv_len (len_str ti9)) ?_
          refine wo_val (.bool (decide ((s.length : Int) < (s.length : Int)))) rfl (pv_bin rfl rfl rfl) ?_
          refine wo_nil ?_
          refine wr_condF rfl (Int.lt_irrefl _) ?_
          refine wr_exit rfl ?_
          refine wr_seq ?_
          refine wr_region ?_
          refine wo_val (.bool true) rfl pv_assign ?_
          refine wo_nil ?_
          exact wr_ret (a := true) (vs := [(.bool true)]) Tryd.func21 hI rfl (.same _)
    · refine wo_not (tj := 12) (b := true) rfl (congrArg AV.bool hb3) rfl rfl ?_
      refine wo_not (tj := 12) (b := true) rfl (congrArg AV.bool hb3) rfl rfl ?_
      refine wo_not (tj := 12) (b := true) rfl (congrArg AV.bool hb3) rfl rfl ?_
      refine wo_not (tj := 12) (b := true) rfl (congrArg AV.bool hb3) rfl rfl ?_
      refine wo_val (.bool true) rfl (pv_pick (t := true) (congrArg AV.bool hb3) rfl) ?_
      refine wo_back1 ?_
      refine wo_is [(0, (.str s)), (17, (.bool true))] (.cons rfl (.cons rfl .nil)) ?_
      exact hJ1 true _ _ ⟨rfl, rfl⟩
    · refine wo_valg (tj := 12) (.str s) rfl (congrArg AV.bool hb3) rfl pv_move ?_
      refine of_idx fun a hz hx1 => ?_
      refine wo_valg (tj := 12) (.int .u8 (a.toNat : Int)) rfl (congrArg AV.bool hb3) rfl (pv_ix (ix_str ti9 hz hx1)) ?_
      refine of_call [(.int .u8 (a.toNat : Int))] rfl (wanted_yes (tj := 12) rfl (congrArg AV.bool hb3)) rfl rfl ((cp_ref07_Letter (a.toNat : Int)) _) (fun v _ => wu_pan Tryd.func21 hI) fun r _ => ?_
      refine wo_valg (tj := 12) (.bool (!r)) rfl (congrArg AV.bool hb3) rfl (pv_un rfl) ?_
      refine wo_val (.bool (!r)) rfl (pv_pick (t := false) (congrArg AV.bool hb3) rfl) ?_
      refine wo_back1 ?_
      refine wo_is [(0, (.str s)), (17, (.bool (!r)))] (.cons rfl (.cons rfl .nil)) ?_
      exact hJ1 (!r) _ _ ⟨rfl, rfl⟩
  · refine wo_not (tj := 7) (b := true) rfl (congrArg AV.bool hb1) rfl rfl ?_
    refine wo_not (tj := 7) (b := true) rfl (congrArg AV.bool hb1) rfl rfl ?_
    refine wo_not (tj := 7) (b := true) rfl (congrArg AV.bool hb1) rfl rfl ?_
    refine wo_val (.bool true) rfl (pv_pick (t := true) (congrArg AV.bool hb1) rfl) ?_
    exact wo_is [(0, (.str s)), (11, (.bool ((decide ((s.length : Int) < 1)) || (decide ((s.length : Int) > 32)))))] (.cons rfl (.cons (or_t hb1) .nil)) hJ
  · refine wo_valg (tj := 7) (.str s) rfl (congrArg AV.bool hb1) rfl pv_move ?_
    refine wo_valg (tj := 7) (.int .i64 (s.length : Int)) rfl (congrArg AV.bool hb1) rfl (pv_len (len_str ti9)) ?_
    refine wo_valg (tj := 7) (.bool (decide ((s.length : Int) > 32))) rfl (congrArg AV.bool hb1) rfl (pv_bin rfl rfl rfl) ?_
    refine wo_val (.bool (decide ((s.length : Int) > 32))) rfl (pv_pick (t := false) (congrArg AV.bool hb1) rfl) ?_
    exact wo_is [(0, (.str s)), (11, (.bool ((decide ((s.length : Int) < 1)) || (decide ((s.length : Int) > 32)))))] (.cons rfl (.cons (or_f hb1) .nil)) hJ

theorem cp_ref07_number (s : Str) : CP Tryd.prog 34 [(.str s)] (ref07_number s) (fun (p : (Int × Bool)) => AV.tup [(.int .i64 p.1), (.bool p.2)]) := by
  refine cp_intro (n := 31) 0 Tryd.func34 rfl (by decide) rfl rfl fun h0 ids hI => ?_
  refine wr_in (wr_mod (ref07_number.eq_1 _) ?_)
  refine wr_seq ?_
  refine wr_region ?_
  refine wo_val (.int .i64 0) rfl pv_assign ?_
  refine wo_val (.bool false) rfl pv_assign ?_
  refine wo_nil ?_
  refine wr_seq ?_
  refine wr_region ?_
  refine wo_val (.int .i64 0) rfl pv_assign ?_
  refine wo_nil ?_
  refine wr_seq ?_
  refine wr_seq ?_
  refine wr_region ?_
  refine wo_val (.int .i64 0) rfl pv_assign ?_
  refine wo_nil ?_
  refine wr_block ?_
  refine wr_need fun hlim => ?_
  refine wr_is [(0, (.str s)), (4, (.int .i64 0)), (5, (.int .i64 0))] (.cons rfl (.cons rfl (.cons rfl .nil))) ?_
  refine wf_each' (P := Tryd.prog) s (fun _ a => fun n => ref07_number_b1 a n) ((alt (fun n => if ((s.length : Int) == 1) then
(.ok (n, true))
else
((idx s 0).bind fun a1 =>
  .ok (n, ((a1.toNat : Int) != 48)))) (fun r => .ok r)) : (Int ⊕ (Int × Bool)) → R (Int × Bool))
    (fun j => fun n => fun (fr : Nat → AV) (h : AHeap) => fr = frA [(0, (.str s)), (4, (.int .i64 n)), (5, (.int .i64 (j : Int)))] ∧ h = hp h0 ids []) 0 ?_ ?_ ?_
  · exact ⟨rfl, rfl⟩
  · rintro j a ha W hW n fr h ⟨rfl, rfl⟩
    refine wr_mod (m' := ref07_number_b1 a n) rfl (wr_mod (ref07_number_b1.eq_1 _ _) ?_)
    refine wr_seq ?_
    refine wr_seq ?_
    refine wr_region ?_
    refine wo_val (.int .i64 (j : Int)) rfl pv_move ?_
    refine wo_val (.str s) rfl pv_move ?_
    refine wo_val (.int .i64 (s.length : Int)) rfl (pv_len (len_str ti9)) ?_
    refine wo_val (.bool (decide ((j : Int) < (s.length : Int)))) rfl (pv_bin rfl rfl rfl) ?_
    refine wo_nil ?_
    refine wr_condT rfl (Int.ofNat_lt.2 (lt_of_get ha)) ?_
    refine wr_skip ?_
    refine wr_seq ?_
    refine wr_block ?_
    refine wr_seq ?_
    refine wr_region ?_
    refine wo_val (.int .i64 n) rfl pv_move ?_
    refine wo_val (.int .i64 (IntKind.wrap .i64 (10 * n))) rfl (pv_bin rfl rfl rfl) ?_
    refine wo_val (.str s) rfl pv_move ?_
    refine wo_val (.int .i64 (j : Int)) rfl pv_move ?_
    refine wo_val (.int .u8 (a.toNat : Int)) rfl (pv_ix (ix_strn ti9 ha)) ?_
    refine wo_val (.int .u8 (IntKind.wrap .u8 ((a.toNat : Int) - 48))) rfl (pv_bin rfl rfl rfl) ?_
    refine wo_val (.int .i64 (IntKind.wrap .i64 (IntKind.wrap .u8 ((a.toNat : Int) - 48)))) rfl (pv_conv (cv_int ti5 ti3)) ?_
    refine wo_val (.int .i64 (IntKind.wrap .i64 ((IntKind.wrap .i64 (10 * n)) + (IntKind.wrap .i64 (IntKind.wrap .u8 ((a.toNat : Int) - 48)))))) rfl (pv_bin rfl rfl rfl) ?_
    refine wo_val (.int .i64 (IntKind.wrap .i64 ((IntKind.wrap .i64 (10 * n)) + (IntKind.wrap .i64 (IntKind.wrap .u8 ((a.toNat : Int) - 48)))))) rfl pv_assign ?_
    refine wo_nil ?_
    refine wr_seq ?_
    refine wr_region ?_
    refine wo_val (.int .i64 (IntKind.wrap .i64 ((IntKind.wrap .i64 (10 * n)) + (IntKind.wrap .i64 (IntKind.wrap .u8 ((a.toNat : Int) - 48)))))) rfl pv_move ?_
    refine wo_val (.bool (decide ((IntKind.wrap .i64 ((IntKind.wrap .i64 (10 * n)) + (IntKind.wrap .i64 (IntKind.wrap .u8 ((a.toNat : Int) - 48))))) > 1099511627776))) rfl (pv_bin rfl rfl rfl) ?_
    refine wo_nil ?_
    refine wf_ite rfl (fun hc => ?_) (fun hc => ?_)
    · refine wr_seq ?_
      refine wr_region ?_
      refine wo_val (.int .i64 0) rfl pv_assign ?_
      refine wo_val (.bool false) rfl pv_assign ?_
      refine wo_nil ?_
      refine wx_each ?_
      refine w_altr ?_
      exact wr_ret (a := (0, false)) (vs := [(.int .i64 0), (.bool false)]) Tryd.func34 hI rfl (.tupL (.cons (.same _) (.cons (.same _) .nil)))
    · refine wr_skip ?_
      refine wr_inBlock ?_
      refine wr_region ?_
      refine wo_val (.int .i64 (j : Int)) rfl pv_move ?_
      refine wo_val (.int .i64 (IntKind.wrap .i64 ((j : Int) + 1))) rfl (pv_bin rfl rfl rfl) ?_
      refine wo_val (.int .i64 (IntKind.wrap .i64 ((j : Int) + 1))) rfl pv_assign ?_
      refine wo_nil ?_
      refine wr_is [(0, (.str s)), (4, (.int .i64 (IntKind.wrap .i64 ((IntKind.wrap .i64 (10 * n)) + (IntKind.wrap .i64 (IntKind.wrap .u8 ((a.toNat : Int) - 48))))))), (5, (.int .i64 ((j + 1 : Nat) : Int)))] (.cons rfl (.cons rfl (.cons (inc_ok (lt_of_get ha) hlim) .nil))) ?_
      refine wb_each ?_
      refine hW (IntKind.wrap .i64 ((IntKind.wrap .i64 (10 * n)) + (IntKind.wrap .i64 (IntKind.wrap .u8 ((a.toNat : Int) - 48))))) _ _ ?_
      exact ⟨rfl, rfl⟩
  · rintro n fr h ⟨rfl, rfl⟩
    refine wr_mod (alt_inl _ _ _) ?_
    refine wr_seq ?_
    refine wr_seq ?_
    refine wr_region ?_
    refine wo_val (.int .i64 (s.length : Int)) rfl pv_move ?_
    refine wo_val (.str s) rfl pv_move ?_
    refine wo_val (.int .i64 (s.length : Int)) rfl (pv_len (len_str ti9)) ?_
    refine wo_val (.bool (decide ((s.length : Int) < (s.length : Int)))) rfl (pv_bin rfl rfl rfl) ?_
    refine wo_nil ?_
    refine wr_condF rfl (Int.lt_irrefl _) ?_
    refine wr_exit rfl ?_
    refine wr_seq ?_
    refine wr_draw hmix [[], [], [1], [1, 2], [1, 2, 3], [1, 2, 3, 4], [1, 2, 3, 4, 5], [1, 2, 3, 4, 5, 6], [1, 2, 3, 4, 5, 6, 7], [0, 1, 2, 3, 4], [0, 1, 2, 3, 4, 5, 6, 7, 8, 8, 9, 9]] [(false, 0), (false, 1), (false, 2), (false, 3), (false, 4), (false, 5), (false, 6), (false, 7), (false, 8), (false, 9), (false, 10)] (by kernel_rfl) ?_
    refine wp_val (.int .i64 n) rfl rfl pv_move ?_
    refine wp_val (.str s) rfl rfl pv_move ?_
    refine wp_val (.int .i64 (s.length : Int)) rfl rfl (pv_len (len_str ti9)) ?_
    refine wp_val (.bool ((s.length : Int) == 1)) rfl rfl (pv_bin rfl rfl rfl) ?_
    refine wp_val (.bool ((s.length : Int) == 1)) rfl rfl pv_move ?_
    refine op_iteb (fun hb => ?_) (fun hb => ?_)
    · refine wp_not (tj := 26) (b := true) rfl rfl (congrArg AV.bool hb) rfl rfl ?_
      refine wp_not (tj := 26) (b := true) rfl rfl (congrArg AV.bool hb) rfl rfl ?_
      refine wp_not (tj := 26) (b := true) rfl rfl (congrArg AV.bool hb) rfl rfl ?_
      refine wp_val (.bool true) rfl rfl (pv_pick (t := true) (congrArg AV.bool hb) rfl) ?_
      refine wp_val (.int .i64 n) rfl rfl pv_assign ?_
      refine wp_val (.bool true) rfl rfl pv_assign ?_
      refine wp_nil ?_
      exact wr_ret (a := (n, true)) (vs := [(.int .i64 n), (.bool true)]) Tryd.func34 hI rfl (.tupL (.cons (.same _) (.cons (.same _) .nil)))
    · refine wp_valg (tj := 26) (.str s) rfl rfl (congrArg AV.bool hb) rfl pv_move ?_
      refine op_idx fun a1 hz hx1 => ?_
      refine wp_valg (tj := 26) (.int .u8 (a1.toNat : Int)) rfl rfl (congrArg AV.bool hb) rfl (pv_ix (ix_str ti9 hz hx1)) ?_
      refine wp_valg (tj := 26) (.bool ((a1.toNat : Int) != 48)) rfl rfl (congrArg AV.bool hb) rfl (pv_bin rfl rfl rfl) ?_
      refine wp_val (.bool ((a1.toNat : Int) != 48)) rfl rfl (pv_pick (t := false) (congrArg AV.bool hb) rfl) ?_
      refine wp_val (.int .i64 n) rfl rfl pv_assign ?_
      refine wp_val (.bool ((a1.toNat : Int) != 48)) rfl rfl pv_assign ?_
      refine wp_nil ?_
      exact wr_ret (a := (n, ((a1.toNat : Int) != 48))) (vs := [(.int .i64 n), (.bool ((a1.toNat : Int) != 48))]) Tryd.func34 hI rfl (.tupL (.cons (.same _) (.cons (.same _) .nil)))

theorem cp_ref07_Sign (c : Int) : CP Tryd.prog 35 [(.int .u8 c)] (ref07_Sign c) (fun (x : Bool) => (AV.bool x)) := by
  refine cp_intro (n := 16) 0 Tryd.func35 rfl (by decide) rfl rfl fun h0 ids hI => ?_
  refine wr_in (wr_mod (ref07_Sign.eq_1 _) ?_)
  refine wr_seq ?_
  refine wr_region ?_
  refine wo_val (.bool false) rfl pv_assign ?_
  refine wo_nil ?_
  refine wr_seq ?_
  refine wr_region ?_
  refine wo_val (.str [123, 125, 40, 41, 59, 44, 61, 35, 47, 60, 33, 45, 46]) rfl pv_assign ?_
  refine wo_nil ?_
  refine wr_seq ?_
  refine wr_seq ?_
  refine wr_region ?_
  refine wo_val (.int .i64 0) rfl pv_assign ?_
  refine wo_nil ?_
  refine wr_block ?_
  refine wr_need fun hlim => ?_
  refine wr_is [(0, (.int .u8 c)), (3, (.str [123, 125, 40, 41, 59, 44, 61, 35, 47, 60, 33, 45, 46])), (4, (.int .i64 0))] (.cons rfl (.cons rfl (.cons rfl .nil))) ?_
  refine wf_each' (P := Tryd.prog) [123, 125, 40, 41, 59, 44, 61, 35, 47, 60, 33, 45, 46] (fun _ a => fun _ => ref07_Sign_b1 c a) ((alt (fun _ => .ok false) (fun r => .ok r)) : (Unit ⊕ Bool) → R Bool)
    (fun j => fun _ => fun (fr : Nat → AV) (h : AHeap) => fr = frA [(0, (.int .u8 c)), (3, (.str [123, 125, 40, 41, 59, 44, 61, 35, 47, 60, 33, 45, 46])), (4, (.int .i64 (j : Int)))] ∧ h = hp h0 ids []) () ?_ ?_ ?_
  · exact ⟨rfl, rfl⟩
  · rintro j a ha W hW _ fr h ⟨rfl, rfl⟩
    refine wr_mod (m' := ref07_Sign_b1 c a) rfl (wr_mod (ref07_Sign_b1.eq_1 _ _) ?_)
    refine wr_seq ?_
    refine wr_seq ?_
    refine wr_region ?_
    refine wo_val (.int .i64 (j : Int)) rfl pv_move ?_
    refine wo_val (.str [123, 125, 40, 41, 59, 44, 61, 35, 47, 60, 33, 45, 46]) rfl pv_move ?_
    refine wo_val (.int .i64 ([123, 125, 40, 41, 59, 44, 61, 35, 47, 60, 33, 45, 46].length : Int)) rfl (pv_len (len_str ti9)) ?_
    refine wo_val (.bool (decide ((j : Int) < ([123, 125, 40, 41, 59, 44, 61, 35, 47, 60, 33, 45, 46].length : Int)))) rfl (pv_bin rfl rfl rfl) ?_
    refine wo_nil ?_
    refine wr_condT rfl (Int.ofNat_lt.2 (lt_of_get ha)) ?_
    refine wr_skip ?_
    refine wr_seq ?_
    refine wr_block ?_
    refine wr_seq ?_
    refine wr_region ?_
    refine wo_val (.str [123, 125, 40, 41, 59, 44, 61, 35, 47, 60, 33, 45, 46]) rfl pv_move ?_
    refine wo_val (.int .i64 (j : Int)) rfl pv_move ?_
    refine wo_val (.int .u8 (a.toNat : Int)) rfl (pv_ix (ix_strn ti9 ha)) ?_
    refine wo_val (.int .u8 c) rfl pv_move ?_
    refine wo_val (.bool ((a.toNat : Int) == c)) rfl (pv_bin rfl rfl rfl) ?_
    refine wo_nil ?_
    refine wf_iteb rfl (fun hc => ?_) (fun hc => ?_)
    · refine wr_seq ?_
      refine wr_region ?_
      refine wo_val (.bool true) rfl pv_assign ?_
      refine wo_nil ?_
      refine wx_each ?_
      refine w_altr ?_
      exact wr_ret (a := true) (vs := [(.bool true)]) Tryd.func35 hI rfl (.same _)
    · refine wr_skip ?_
      refine wr_inBlock ?_
      refine wr_region ?_
      refine wo_val (.int .i64 (j : Int)) rfl pv_move ?_
      refine wo_val (.int .i64 (IntKind.wrap .i64 ((j : Int) + 1))) rfl (pv_bin rfl rfl rfl) ?_
      refine wo_val (.int .i64 (IntKind.wrap .i64 ((j : Int) + 1))) rfl pv_assign ?_
      refine wo_nil ?_
      refine wr_is [(0, (.int .u8 c)), (3, (.str [123, 125, 40, 41, 59, 44, 61, 35, 47, 60, 33, 45, 46])), (4, (.int .i64 ((j + 1 : Nat) : Int)))] (.cons rfl (.cons rfl (.cons (inc_ok (lt_of_get ha) hlim) .nil))) ?_
      refine wb_each ?_
      refine hW () _ _ ?_
      exact ⟨rfl, rfl⟩
  · rintro _ fr h ⟨rfl, rfl⟩
    refine wr_mod (alt_inl _ _ _) ?_
    refine wr_seq ?_
    refine wr_seq ?_
    refine wr_region ?_
    refine wo_val (.int .i64 ([123, 125, 40, 41, 59, 44, 61, 35, 47, 60, 33, 45, 46].length : Int)) rfl pv_move ?_
    refine wo_val (.str [123, 125, 40, 41, 59, 44, 61, 35, 47, 60, 33, 45, 46]) rfl pv_move ?_
    refine wo_val (.int .i64 ([123, 125, 40, 41, 59, 44, 61, 35, 47, 60, 33, 45, 46].length : Int)) rfl (pv_len (len_str ti9)) ?_
    refine wo_val (.bool (decide (([123, 125, 40, 41, 59, 44, 61, 35, 47, 60, 33, 45, 46].length : Int) < ([123, 125, 40, 41, 59, 44, 61, 35, 47, 60, 33, 45, 46].length : Int)))) rfl (pv_bin rfl rfl rfl) ?_
    refine wo_nil ?_
    refine wr_condF rfl (Int.lt_irrefl _) ?_
    refine wr_exit rfl ?_
    refine wr_seq ?_
    refine wr_region ?_
    refine wo_val (.bool false) rfl pv_assign ?_
    refine wo_nil ?_
    exact wr_ret (a := false) (vs := [(.bool false)]) Tryd.func35 hI rfl (.same _)

theorem cp_ref07_Lex (a : Str) : CP Tryd.prog 13 [(.str a)] (ref07_Lex a) (fun (p : ((List Token) × Int × Int)) => AV.tup [(.sl 4 (List.map rToken p.1)), (.int .i64 p.2.1), (.int .i64 p.2.2)]) := by
  refine cp_intro (n := 138) 3 Tryd.func13 rfl (by decide) rfl rfl fun h0 ids hI => ?_
  refine wr_in (wr_mod (ref07_Lex.eq_1 _) ?_)
  refine wr_seq ?_
  refine wr_region ?_
  refine wo_val .emp rfl pv_assign ?_
  refine wo_val (.int .i64 0) rfl pv_assign ?_
  refine wo_val (.int .i64 0) rfl pv_assign ?_
  refine wo_nil ?_
  refine wr_seq ?_
  refine wr_seq ?_
  refine wr_region ?_
  refine wo_val (.str a) rfl pv_move ?_
  refine wo_val (.int .i64 (a.length : Int)) rfl (pv_len (len_str ti9)) ?_
  refine wo_val (.bool (decide ((a.length : Int) > 65536))) rfl (pv_bin rfl rfl rfl) ?_
  refine wo_nil ?_
  refine wf_ite rfl (fun hc => ?_) (fun hc => ?_)
  · refine wr_seq ?_
    refine wr_region ?_
    refine wo_val .emp rfl pv_assign ?_
    refine wo_val (.int .i64 0) rfl pv_assign ?_
    refine wo_val (.int .i64 2) rfl pv_assign ?_
    refine wo_nil ?_
    exact wr_ret (a := ([], 0, 2)) (vs := [.emp, (.int .i64 0), (.int .i64 2)]) Tryd.func13 hI rfl (.tupL (.cons (.emp _) (.cons (.same _) (.cons (.same _) .nil))))
  · refine wr_skip ?_
    refine wr_seq ?_
    refine wr_region ?_
    refine wo_bs0 rfl ti23 ti35 ?_
    refine wo_val .emp rfl pv_assign ?_
    refine wo_nil ?_
    refine wr_seq ?_
    refine wr_region ?_
    refine wo_val (.int .i64 0) rfl pv_assign ?_
    refine wo_nil ?_
    refine wr_seq ?_
    refine wf_join (fun x8 => ref07_Lex_j4 x8) (fun x8 => fun (fr : Nat → AV) (h : AHeap) => ∃ (v4 : AV), ∃ (g4 : Nat), OwnV v4 (ix ids 0) g4 x8.length ∧ fr = frA [(5, v4)] ∧ h = hp h0 ids [(ownO v4 g4 4 (List.map rToken x8)), none, none]) ?_ fun hJ8 => ?_
    · rintro x8 fr h ⟨v4, g4, vH4, rfl, rfl⟩
      refine wr_mod (ref07_Lex_j4.eq_1 _) ?_
      refine wr_seq ?_
      refine wr_region ?_
      refine wo_val v4 rfl pv_move ?_
      refine wo_val v4 rfl pv_assign ?_
      refine wo_val (.int .i64 0) rfl pv_assign ?_
      refine wo_val (.int .i64 0) rfl pv_assign ?_
      refine wo_nil ?_
      exact wr_ret (a := (x8, 0, 0)) (vs := [v4, (.int .i64 0), (.int .i64 0)]) Tryd.func13 hI rfl (.tupL (.cons (own_fz vH4 (hI.at rfl rfl) (hI.out rfl) (fun x => ok_Token x)) (.cons (.same _) (.cons (.same _) .nil))))
    · refine wr_block ?_
      refine wr_is [(0, (.str a)), (5, .emp), (6, (.int .i64 0))] (.cons rfl (.cons rfl (.cons rfl .nil))) ?_
      refine wf_loop' (P := Tryd.prog) (un2 fun x x1 => ref07_Lex_b4 a x x1) ((alt (fun x8 => ref07_Lex_j4 x8) (fun r => .ok r)) : ((List Token) ⊕ ((List Token) × Int × Int)) → R ((List Token) × Int × Int))
        (un2 fun x x1 => fun (fr : Nat → AV) (h : AHeap) => ∃ (v : AV), ∃ (g : Nat), OwnV v (ix ids 0) g x1.length ∧ fr = frA [(0, (.str a)), (5, v), (6, (.int .i64 x))] ∧ h = hp h0 ids [(ownO v g 4 (List.map rToken x1)), none, none]) (0, []) ?_ ?_
      · exact ⟨.emp, 0, .nil, rfl, rfl⟩
      · rintro vW hW ⟨x, x1⟩ fr h ⟨v, g, vH, rfl, rfl⟩
        refine wr_mod (m' := ref07_Lex_b4 a x x1) rfl (wr_mod (ref07_Lex_b4.eq_1 _ _ _) ?_)
        refine wr_seq ?_
        refine wr_seq ?_
        refine wr_region ?_
        refine wo_val (.int .i64 x) rfl pv_move ?_
        refine wo_val (.str a) rfl pv_move ?_
        refine wo_val (.int .i64 (a.length : Int)) rfl (pv_len (len_str ti9)) ?_
        refine wo_val (.bool (decide (x < (a.length : Int)))) rfl (pv_bin rfl rfl rfl) ?_
        refine wo_nil ?_
        refine wf_ite rfl (fun hc1 => ?_) (fun hc1 => ?_)
        · refine wr_skip ?_
          refine wr_block ?_
          refine wr_seq ?_
          refine wr_region ?_
          refine wo_val (.int .i64 x) rfl pv_move ?_
          refine wo_val (.int .i64 x) rfl pv_assign ?_
          refine wo_nil ?_
          refine wr_seq ?_
          refine wr_seq ?_
          refine wr_region ?_
          refine wo_val (.str a) rfl pv_move ?_
          refine wo_val (.int .i64 x) rfl pv_move ?_
          refine of_idx fun a1 hz hx1 => ?_
          refine wo_val (.int .u8 (a1.toNat : Int)) rfl (pv_ix (ix_str ti9 hz hx1)) ?_
          refine of_call [(.int .u8 (a1.toNat : Int))] rfl rfl rfl rfl ((cp_ref07_Space (a1.toNat : Int)) _) (fun v _ => wu_pan Tryd.func13 hI) fun r _ => ?_
          refine wo_nil ?_
          refine wf_iteb rfl (fun hc2 => ?_) (fun hc2 => ?_)
          · refine wr_seq ?_
            refine wr_region ?_
            refine wo_val (.int .i64 x) rfl pv_move ?_
            refine wo_val (.int .i64 (IntKind.wrap .i64 (x + 1))) rfl (pv_bin rfl rfl rfl) ?_
            refine wo_val (.int .i64 (IntKind.wrap .i64 (x + 1))) rfl pv_assign ?_
            refine wo_nil ?_
            refine wr_exit rfl ?_
            refine wr_is [(0, (.str a)), (5, v), (6, (.int .i64 (IntKind.wrap .i64 (x + 1))))] (.cons rfl (.cons rfl (.cons rfl .nil))) ?_
            refine wb_loop ?_
            refine hW ((IntKind.wrap .i64 (x + 1)), x1) _ _ ?_
            exact ⟨v, g, vH, rfl, rfl⟩
          · refine wr_skip ?_
            refine wr_seq ?_
            refine wr_seq ?_
            refine wr_region ?_
            refine wo_val (.str a) rfl pv_move ?_
            refine wo_val (.int .i64 x) rfl pv_move ?_
            refine wo_val (.int .u8 (a1.toNat : Int)) rfl (pv_ix (ix_str ti9 hz hx1)) ?_
            refine wo_val (.bool ((a1.toNat : Int) == 47)) rfl (pv_bin rfl rfl rfl) ?_
            refine wo_val (.bool ((a1.toNat : Int) == 47)) rfl pv_move ?_
            refine wo_meet 6 [(0, (.str a)), (5, v), (6, (.int .i64 x)), (7, (.int .i64 x)), (35, (.bool (((a1.toNat : Int) == 47) && (decide ((IntKind.wrap .i64 (x + 1)) < (a.length : Int))))))] ?_ fun hJ => wo_cases ((a1.toNat : Int) == 47) (fun hb1 => ?_) (fun hb1 => ?_)
            · refine wo_val (.bool (((a1.toNat : Int) == 47) && (decide ((IntKind.wrap .i64 (x + 1)) < (a.length : Int))))) rfl pv_move ?_
              refine wo_join 6 ((fun (b : Bool) => if b then
((loop (fun x2 => ref07_Lex_b1 a x2) x).bind (fun x3 => ref07_Lex_j1 x1 x3))
else
((ref07_Letter (a1.toNat : Int)).bind fun r1 =>
  if r1 then
((loop (fun x4 => ref07_Lex_b2 a x4) x).bind (fun x5 => ref07_Lex_j2 a x x1 x5))
else
((ref07_Figure (a1.toNat : Int)).bind fun r4 =>
  if r4 then
((loop (fun x6 => ref07_Lex_b3 a x6) x).bind (fun x7 => ref07_Lex_j3 a x x1 x7))
else
((ref07_Sign (a1.toNat : Int)).bind fun r7 =>
  if r7 then
(if 0 ≤ x ∧ x ≤ (IntKind.wrap .i64 (x + 1)) ∧ (IntKind.wrap .i64 (x + 1)) ≤ (a.length : Int) then
  if (x1.length + [({ Kind := 3, Text := (cut a x (IntKind.wrap .i64 (x + 1))), N := 0, At := x } : Token)].length) * 40 ≤ LIM then
  .ok (.inl ((IntKind.wrap .i64 (x + 1)), (x1 ++ [({ Kind := 3, Text := (cut a x (IntKind.wrap .i64 (x + 1))), N := 0, At := x } : Token)]))) else .bad else .bad)
else
(.ok (.inr (.inr (([], x, 70))))))))) : Bool → R ((Int × (List Token)) ⊕ ((List Token) ⊕ ((List Token) × Int × Int)))) (fun (b : Bool) (fr : Nat → AV) (h : AHeap) => fr = frA [(0, (.str a)), (5, v), (6, (.int .i64 x)), (7, (.int .i64 x)), (42, (.bool b))] ∧ h = hp h0 ids [(ownO v g 4 (List.map rToken x1)), none, none]) ?_ fun hJ1 => of_if1 (fun hb3 => ?_) (fun hb3 => ?_)
              · rintro b fr h ⟨rfl, rfl⟩
                refine wo_nil ?_
                refine wf_iteb rfl (fun hc3 => ?_) (fun hc3 => ?_)
                · refine wr_seq ?_
                  refine wf_join (fun x3 => ref07_Lex_j1 x1 x3) (fun x3 => fun (fr : Nat → AV) (h : AHeap) => fr = frA [(0, (.str a)), (5, v), (6, (.int .i64 x3))] ∧ h = hp h0 ids [(ownO v g 4 (List.map rToken x1)), none, none]) ?_ fun hJ3 => ?_
                  · rintro x3 fr h ⟨rfl, rfl⟩
                    refine wr_mod (ref07_Lex_j1.eq_1 _ _) ?_
                    refine wr_exit rfl ?_
                    refine wr_is [(0, (.str a)), (5, v), (6, (.int .i64 x3))] (.cons rfl (.cons rfl (.cons rfl .nil))) ?_
                    refine wb_loop ?_
                    refine hW (x3, x1) _ _ ?_
                    exact ⟨v, g, vH, rfl, rfl⟩
                  · refine wr_block ?_
                    refine wr_is [(0, (.str a)), (5, v), (6, (.int .i64 x))] (.cons rfl (.cons rfl (.cons rfl .nil))) ?_
                    refine wf_loop' (P := Tryd.prog) (fun x2 => ref07_Lex_b1 a x2) ((fun x3 => ref07_Lex_j1 x1 x3) : Int → R ((Int × (List Token)) ⊕ ((List Token) ⊕ ((List Token) × Int × Int))))
                      (fun x2 => fun (fr : Nat → AV) (h : AHeap) => fr = frA [(0, (.str a)), (5, v), (6, (.int .i64 x2))] ∧ h = hp h0 ids [(ownO v g 4 (List.map rToken x1)), none, none]) x ?_ ?_
                    · exact ⟨rfl, rfl⟩
                    · rintro vW1 hW1 x2 fr h ⟨rfl, rfl⟩
                      refine wr_mod (m' := ref07_Lex_b1 a x2) rfl (wr_mod (ref07_Lex_b1.eq_1 _ _) ?_)
                      refine wr_seq ?_
                      refine wr_seq ?_
                      refine wr_region ?_
                      refine wo_val (.int .i64 x2) rfl pv_move ?_
                      refine wo_val (.str a) rfl pv_move ?_
                      refine wo_val (.int .i64 (a.length : Int)) rfl (pv_len (len_str ti9)) ?_
                      refine wo_val (.bool (decide (x2 < (a.length : Int)))) rfl (pv_bin rfl rfl rfl) ?_
                      refine wo_val (.bool (decide (x2 < (a.length : Int)))) rfl pv_move ?_
                      refine wo_join 5 ((fun (b1 : Bool) => if b1 then
(.ok (.inl (IntKind.wrap .i64 (x2 + 1))))
else
(.ok (.inr (x2)))) : Bool → R (Int ⊕ Int)) (fun (b1 : Bool) (fr : Nat → AV) (h : AHeap) => fr = frA [(0, (.str a)), (5, v), (6, (.int .i64 x2)), (52, (.bool b1))] ∧ h = hp h0 ids [(ownO v g 4 (List.map rToken x1)), none, none]) ?_ fun hJ2 => of_if1 (fun hb5 => ?_) (fun hb5 => ?_)
                      · rintro b1 fr h ⟨rfl, rfl⟩
                        refine wo_nil ?_
                        refine wf_iteb rfl (fun hc4 => ?_) (fun hc4 => ?_)
                        · refine wr_skip ?_
                          refine wr_block ?_
                          refine wr_region ?_
                          refine wo_val (.int .i64 x2) rfl pv_move ?_
                          refine wo_val (.int .i64 (IntKind.wrap .i64 (x2 + 1))) rfl (pv_bin rfl rfl rfl) ?_
                          refine wo_val (.int .i64 (IntKind.wrap .i64 (x2 + 1))) rfl pv_assign ?_
                          refine wo_nil ?_
                          refine wr_inBlock ?_
                          refine wr_is [(0, (.str a)), (5, v), (6, (.int .i64 (IntKind.wrap .i64 (x2 + 1))))] (.cons rfl (.cons rfl (.cons rfl .nil))) ?_
                          refine wb_loop ?_
                          refine hW1 (IntKind.wrap .i64 (x2 + 1)) _ _ ?_
                          exact ⟨rfl, rfl⟩
                        · refine wr_exit rfl ?_
                          refine wx_loop ?_
                          refine wr_is [(0, (.str a)), (5, v), (6, (.int .i64 x2))] (.cons rfl (.cons rfl (.cons rfl .nil))) ?_
                          refine hJ3 x2 _ _ ?_
                          exact ⟨rfl, rfl⟩
                      · refine wo_valg (tj := 47) (.str a) rfl (congrArg AV.bool hb5) rfl pv_move ?_
                        refine wo_valg (tj := 47) (.int .i64 x2) rfl (congrArg AV.bool hb5) rfl pv_move ?_
                        refine of_idx fun a3 hz2 hx3 => ?_
                        refine wo_valg (tj := 47) (.int .u8 (a3.toNat : Int)) rfl (congrArg AV.bool hb5) rfl (pv_ix (ix_str ti9 hz2 hx3)) ?_
                        refine wo_valg (tj := 47) (.bool ((a3.toNat : Int) != 10)) rfl (congrArg AV.bool hb5) rfl (pv_bin rfl rfl rfl) ?_
                        refine wo_val (.bool ((a3.toNat : Int) != 10)) rfl (pv_pick (t := true) (congrArg AV.bool hb5) rfl) ?_
                        refine wo_back1 ?_
                        refine wo_is [(0, (.str a)), (5, v), (6, (.int .i64 x2)), (52, (.bool ((a3.toNat : Int) != 10)))] (.cons rfl (.cons rfl (.cons rfl (.cons rfl .nil)))) ?_
                        exact hJ2 ((a3.toNat : Int) != 10) _ _ ⟨rfl, rfl⟩
                      · refine wo_not (tj := 47) (b := false) rfl (congrArg AV.bool hb5) rfl rfl ?_
                        refine wo_not (tj := 47) (b := false) rfl (congrArg AV.bool hb5) rfl rfl ?_
                        refine wo_not (tj := 47) (b := false) rfl (congrArg AV.bool hb5) rfl rfl ?_
                        refine wo_not (tj := 47) (b := false) rfl (congrArg AV.bool hb5) rfl rfl ?_
                        refine wo_val (.bool false) rfl (pv_pick (t := false) (congrArg AV.bool hb5) rfl) ?_
                        refine wo_back1 ?_
                        refine wo_is [(0, (.str a)), (5, v), (6, (.int .i64 x2)), (52, (.bool false))] (.cons rfl (.cons rfl (.cons rfl (.cons rfl .nil)))) ?_
                        exact hJ2 false _ _ ⟨rfl, rfl⟩
                · refine wr_skip ?_
                  refine wr_seq ?_
                  refine wr_seq ?_
                  refine wr_region ?_
                  refine wo_val (.str a) rfl pv_move ?_
                  refine wo_val (.int .i64 x) rfl pv_move ?_
                  refine wo_val (.int .u8 (a1.toNat : Int)) rfl (pv_ix (ix_str ti9 hz hx1)) ?_
                  refine of_call [(.int .u8 (a1.toNat : Int))] rfl rfl rfl rfl ((cp_ref07_Letter (a1.toNat : Int)) _) (fun v _ => wu_pan Tryd.func13 hI) fun r1 _ => ?_
                  refine wo_nil ?_
                  refine wf_iteb rfl (fun hc5 => ?_) (fun hc5 => ?_)
                  · refine wr_seq ?_
                    refine wf_join (fun x5 => ref07_Lex_j2 a x x1 x5) (fun x5 => fun (fr : Nat → AV) (h : AHeap) => fr = frA [(0, (.str a)), (5, v), (6, (.int .i64 x5)), (7, (.int .i64 x))] ∧ h = hp h0 ids [(ownO v g 4 (List.map rToken x1)), none, none]) ?_ fun hJ5 => ?_
                    · rintro x5 fr h ⟨rfl, rfl⟩
                      refine wr_mod (ref07_Lex_j2.eq_1 _ _ _ _) ?_
                      refine wr_seq ?_
                      refine wr_seq ?_
                      refine wr_region ?_
                      refine wo_val (.str a) rfl pv_move ?_
                      refine wo_val (.int .i64 x) rfl pv_move ?_
                      refine wo_val (.int .i64 x5) rfl pv_move ?_
                      refine of_need fun hs => ?_
                      refine wo_val (.str (cut a x x5)) rfl (pv_slice (sl_str ti9 hs)) ?_
                      refine of_call [(.str (cut a x x5))] rfl rfl rfl rfl ((cp_ref07_Name (cut a x x5)) _) (fun v _ => wu_pan Tryd.func13 hI) fun r3 _ => ?_
                      refine wo_val (.bool (!r3)) rfl (pv_un rfl) ?_
                      refine wo_nil ?_
                      refine wf_itebn rfl (fun hc7 => ?_) (fun hc7 => ?_)
                      · refine wr_skip ?_
                        refine wr_seq ?_
                        refine wr_region ?_
                        refine wo_val v rfl pv_move ?_
                        refine wo_val (.str a) rfl pv_move ?_
                        refine wo_val (.int .i64 x) rfl pv_move ?_
                        refine wo_val (.int .i64 x5) rfl pv_move ?_
                        refine of_need fun hs1 => ?_
                        refine wo_val (.str (cut a x x5)) rfl (pv_slice (sl_str ti9 hs1)) ?_
                        refine wo_val (.int .i64 x) rfl pv_move ?_
                        refine wo_val (.agg [(.int .i64 1), (.str (cut a x x5)), (.int .i64 0), (.int .i64 x)]) rfl (pv_build (bd_st ti35 pl35 rfl)) ?_
                        refine wo_bsC (e := rToken) (L := [({ Kind := 1, Text := (cut a x x5), N := 0, At := x } : Token)]) (st := 4) (rows := [[(.int .i64 1), (.str (cut a x x5)), (.int .i64 0), (.int .i64 x)]]) rfl ti23 ti35 rfl rfl rfl rfl rfl (.cons (.cons (.same _) (.cons (.same _) (.cons (.same _) (.cons (.same _) .nil)))) .nil) (fun x => ok_Token x) rfl rfl ?_
                        refine of_need fun hl => ?_
                        refine wo_append (e := rToken) (L := x1) (L2 := [({ Kind := 1, Text := (cut a x x5), N := 0, At := x } : Token)]) (v := v) (g := g) (st := 4) (j := 0) hI rfl rfl rfl rfl vH rfl (src_sl rfl) ti23 ti23 rfl ti35 rfl rfl rfl hl fun v1 g1 vH1 => ?_
                        refine wo_val v1 rfl pv_assign ?_
                        refine wo_nil ?_
                        refine wr_hp [(ownO v1 g1 4 (List.map rToken (x1 ++ [({ Kind := 1, Text := (cut a x x5), N := 0, At := x } : Token)]))), none, none] rfl ?_
                        refine wr_exit rfl ?_
                        refine wr_is [(0, (.str a)), (5, v1), (6, (.int .i64 x5))] (.cons rfl (.cons rfl (.cons rfl .nil))) ?_
                        refine wb_loop ?_
                        refine hW (x5, (x1 ++ [({ Kind := 1, Text := (cut a x x5), N := 0, At := x } : Token)])) _ _ ?_
                        exact ⟨v1, g1, vH1, rfl, rfl⟩
                      · refine wr_seq ?_
                        refine wr_region ?_
                        refine wo_val (.int .i64 x) rfl pv_move ?_
                        refine wo_val .emp rfl pv_assign ?_
                        refine wo_val (.int .i64 x) rfl pv_assign ?_
                        refine wo_val (.int .i64 70) rfl pv_assign ?_
                        refine wo_nil ?_
                        refine wx_loop ?_
                        refine w_altr ?_
                        exact wr_ret (a := ([], x, 70)) (vs := [.emp, (.int .i64 x), (.int .i64 70)]) Tryd.func13 hI rfl (.tupL (.cons (.emp _) (.cons (.same _) (.cons (.same _) .nil))))
                    · refine wr_block ?_
                      refine wr_is [(0, (.str a)), (5, v), (6, (.int .i64 x)), (7, (.int .i64 x))] (.cons rfl (.cons rfl (.cons rfl (.cons rfl .nil)))) ?_
                      refine wf_loop' (P := Tryd.prog) (fun x4 => ref07_Lex_b2 a x4) ((fun x5 => ref07_Lex_j2 a x x1 x5) : Int → R ((Int × (List Token)) ⊕ ((List Token) ⊕ ((List Token) × Int × Int))))
                        (fun x4 => fun (fr : Nat → AV) (h : AHeap) => fr = frA [(0, (.str a)), (5, v), (6, (.int .i64 x4)), (7, (.int .i64 x))] ∧ h = hp h0 ids [(ownO v g 4 (List.map rToken x1)), none, none]) x ?_ ?_
                      · exact ⟨rfl, rfl⟩
                      · rintro vW2 hW2 x4 fr h ⟨rfl, rfl⟩
                        refine wr_mod (m' := ref07_Lex_b2 a x4) rfl (wr_mod (ref07_Lex_b2.eq_1 _ _) ?_)
                        refine wr_seq ?_
                        refine wr_seq ?_
                        refine wr_region ?_
                        refine wo_val (.int .i64 x4) rfl pv_move ?_
                        refine wo_val (.str a) rfl pv_move ?_
                        refine wo_val (.int .i64 (a.length : Int)) rfl (pv_len (len_str ti9)) ?_
                        refine wo_val (.bool (decide (x4 < (a.length : Int)))) rfl (pv_bin rfl rfl rfl) ?_
                        refine wo_val (.bool (decide (x4 < (a.length : Int)))) rfl pv_move ?_
                        refine wo_join 5 ((fun (b2 : Bool) => if b2 then
(.ok (.inl (IntKind.wrap .i64 (x4 + 1))))
else
(.ok (.inr (x4)))) : Bool → R (Int ⊕ Int)) (fun (b2 : Bool) (fr : Nat → AV) (h : AHeap) => fr = frA [(0, (.str a)), (5, v), (6, (.int .i64 x4)), (7, (.int .i64 x)), (68, (.bool b2))] ∧ h = hp h0 ids [(ownO v g 4 (List.map rToken x1)), none, none]) ?_ fun hJ4 => of_if1 (fun hb7 => ?_) (fun hb7 => ?_)
                        · rintro b2 fr h ⟨rfl, rfl⟩
                          refine wo_nil ?_
                          refine wf_iteb rfl (fun hc6 => ?_) (fun hc6 => ?_)
                          · refine wr_skip ?_
                            refine wr_block ?_
                            refine wr_region ?_
                            refine wo_val (.int .i64 x4) rfl pv_move ?_
                            refine wo_val (.int .i64 (IntKind.wrap .i64 (x4 + 1))) rfl (pv_bin rfl rfl rfl) ?_
                            refine wo_val (.int .i64 (IntKind.wrap .i64 (x4 + 1))) rfl pv_assign ?_
                            refine wo_nil ?_
                            refine wr_inBlock ?_
                            refine wr_is [(0, (.str a)), (5, v), (6, (.int .i64 (IntKind.wrap .i64 (x4 + 1)))), (7, (.int .i64 x))] (.cons rfl (.cons rfl (.cons rfl (.cons rfl .nil)))) ?_
                            refine wb_loop ?_
                            refine hW2 (IntKind.wrap .i64 (x4 + 1)) _ _ ?_
                            exact ⟨rfl, rfl⟩
                          · refine wr_exit rfl ?_
                            refine wx_loop ?_
                            refine wr_is [(0, (.str a)), (5, v), (6, (.int .i64 x4)), (7, (.int .i64 x))] (.cons rfl (.cons rfl (.cons rfl (.cons rfl .nil)))) ?_
                            refine hJ5 x4 _ _ ?_
                            exact ⟨rfl, rfl⟩
                        · refine wo_valg (tj := 63) (.str a) rfl (congrArg AV.bool hb7) rfl pv_move ?_
                          refine wo_valg (tj := 63) (.int .i64 x4) rfl (congrArg AV.bool hb7) rfl pv_move ?_
                          refine of_idx fun a4 hz3 hx4 => ?_
                          refine wo_valg (tj := 63) (.int .u8 (a4.toNat : Int)) rfl (congrArg AV.bool hb7) rfl (pv_ix (ix_str ti9 hz3 hx4)) ?_
                          refine of_call [(.int .u8 (a4.toNat : Int))] rfl (wanted_yes (tj := 63) rfl (congrArg AV.bool hb7)) rfl rfl ((cp_ref07_part (a4.toNat : Int)) _) (fun v _ => wu_pan Tryd.func13 hI) fun r2 _ => ?_
                          refine wo_val (.bool r2) rfl (pv_pick (t := true) (congrArg AV.bool hb7) rfl) ?_
                          refine wo_back1 ?_
                          refine wo_is [(0, (.str a)), (5, v), (6, (.int .i64 x4)), (7, (.int .i64 x)), (68, (.bool r2))] (.cons rfl (.cons rfl (.cons rfl (.cons rfl (.cons rfl .nil))))) ?_
                          exact hJ4 r2 _ _ ⟨rfl, rfl⟩
                        · refine wo_not (tj := 63) (b := false) rfl (congrArg AV.bool hb7) rfl rfl ?_
                          refine wo_not (tj := 63) (b := false) rfl (congrArg AV.bool hb7) rfl rfl ?_
                          refine wo_not (tj := 63) (b := false) rfl (congrArg AV.bool hb7) rfl rfl ?_
                          refine wo_not (tj := 63) (b := false) rfl (congrArg AV.bool hb7) rfl rfl ?_
                          refine wo_val (.bool false) rfl (pv_pick (t := false) (congrArg AV.bool hb7) rfl) ?_
                          refine wo_back1 ?_
                          refine wo_is [(0, (.str a)), (5, v), (6, (.int .i64 x4)), (7, (.int .i64 x)), (68, (.bool false))] (.cons rfl (.cons rfl (.cons rfl (.cons rfl (.cons rfl .nil))))) ?_
                          exact hJ4 false _ _ ⟨rfl, rfl⟩
                  · refine wr_skip ?_
                    refine wr_seq ?_
                    refine wr_seq ?_
                    refine wr_region ?_
                    refine wo_val (.str a) rfl pv_move ?_
                    refine wo_val (.int .i64 x) rfl pv_move ?_
                    refine wo_val (.int .u8 (a1.toNat : Int)) rfl (pv_ix (ix_str ti9 hz hx1)) ?_
                    refine of_call [(.int .u8 (a1.toNat : Int))] rfl rfl rfl rfl ((cp_ref07_Figure (a1.toNat : Int)) _) (fun v _ => wu_pan Tryd.func13 hI) fun r4 _ => ?_
                    refine wo_nil ?_
                    refine wf_iteb rfl (fun hc8 => ?_) (fun hc8 => ?_)
                    · refine wr_seq ?_
                      refine wf_join (fun x7 => ref07_Lex_j3 a x x1 x7) (fun x7 => fun (fr : Nat → AV) (h : AHeap) => fr = frA [(0, (.str a)), (5, v), (6, (.int .i64 x7)), (7, (.int .i64 x))] ∧ h = hp h0 ids [(ownO v g 4 (List.map rToken x1)), none, none]) ?_ fun hJ7 => ?_
                      · rintro x7 fr h ⟨rfl, rfl⟩
                        refine wr_mod (ref07_Lex_j3.eq_1 _ _ _ _) ?_
                        refine wr_seq ?_
                        refine wr_region ?_
                        refine wo_val (.str a) rfl pv_move ?_
                        refine wo_val (.int .i64 x) rfl pv_move ?_
                        refine wo_val (.int .i64 x7) rfl pv_move ?_
                        refine of_need fun hs2 => ?_
                        refine wo_val (.str (cut a x x7)) rfl (pv_slice (sl_str ti9 hs2)) ?_
                        refine of_call [(.str (cut a x x7))] rfl rfl rfl rfl ((cp_ref07_number (cut a x x7)) _) (fun v _ => wu_pan Tryd.func13 hI) fun r6 _ => ?_
                        refine wo_val (.tup [(.int .i64 r6.1), (.bool r6.2)]) rfl pv_move ?_
                        refine wo_val (.int .i64 r6.1) rfl (pv_ext rfl) ?_
                        refine wo_val (.bool r6.2) rfl (pv_ext rfl) ?_
                        refine wo_val (.int .i64 r6.1) rfl pv_assign ?_
                        refine wo_val (.bool r6.2) rfl pv_assign ?_
                        refine wo_nil ?_
                        refine wr_seq ?_
                        refine wr_seq ?_
                        refine wr_region ?_
                        refine wo_val (.bool r6.2) rfl pv_move ?_
                        refine wo_val (.bool (!r6.2)) rfl (pv_un rfl) ?_
                        refine wo_nil ?_
                        refine wf_itebn rfl (fun hc10 => ?_) (fun hc10 => ?_)
                        · refine wr_skip ?_
                          refine wr_seq ?_
                          refine wr_region ?_
                          refine wo_val v rfl pv_move ?_
                          refine wo_val (.int .i64 r6.1) rfl pv_move ?_
                          refine wo_val (.int .i64 x) rfl pv_move ?_
                          refine wo_val (.agg [(.int .i64 2), (.str []), (.int .i64 r6.1), (.int .i64 x)]) rfl (pv_build (bd_st ti35 pl35 rfl)) ?_
                          refine wo_bsC (e := rToken) (L := [({ Kind := 2, Text := [], N := r6.1, At := x } : Token)]) (st := 4) (rows := [[(.int .i64 2), (.str []), (.int .i64 r6.1), (.int .i64 x)]]) rfl ti23 ti35 rfl rfl rfl rfl rfl (.cons (.cons (.same _) (.cons (.same _) (.cons (.same _) (.cons (.same _) .nil)))) .nil) (fun x => ok_Token x) rfl rfl ?_
                          refine of_need fun hl1 => ?_
                          refine wo_append (e := rToken) (L := x1) (L2 := [({ Kind := 2, Text := [], N := r6.1, At := x } : Token)]) (v := v) (g := g) (st := 4) (j := 0) hI rfl rfl rfl rfl vH rfl (src_sl rfl) ti23 ti23 rfl ti35 rfl rfl rfl hl1 fun v2 g2 vH2 => ?_
                          refine wo_val v2 rfl pv_assign ?_
                          refine wo_nil ?_
                          refine wr_hp [(ownO v2 g2 4 (List.map rToken (x1 ++ [({ Kind := 2, Text := [], N := r6.1, At := x } : Token)]))), none, none] rfl ?_
                          refine wr_exit rfl ?_
                          refine wr_is [(0, (.str a)), (5, v2), (6, (.int .i64 x7))] (.cons rfl (.cons rfl (.cons rfl .nil))) ?_
                          refine wb_loop ?_
                          refine hW (x7, (x1 ++ [({ Kind := 2, Text := [], N := r6.1, At := x } : Token)])) _ _ ?_
                          exact ⟨v2, g2, vH2, rfl, rfl⟩
                        · refine wr_seq ?_
                          refine wr_region ?_
                          refine wo_val (.int .i64 x) rfl pv_move ?_
                          refine wo_val .emp rfl pv_assign ?_
                          refine wo_val (.int .i64 x) rfl pv_assign ?_
                          refine wo_val (.int .i64 70) rfl pv_assign ?_
                          refine wo_nil ?_
                          refine wx_loop ?_
                          refine w_altr ?_
                          exact wr_ret (a := ([], x, 70)) (vs := [.emp, (.int .i64 x), (.int .i64 70)]) Tryd.func13 hI rfl (.tupL (.cons (.emp _) (.cons (.same _) (.cons (.same _) .nil))))
                      · refine wr_block ?_
                        refine wr_is [(0, (.str a)), (5, v), (6, (.int .i64 x)), (7, (.int .i64 x))] (.cons rfl (.cons rfl (.cons rfl (.cons rfl .nil)))) ?_
                        refine wf_loop' (P := Tryd.prog) (fun x6 => ref07_Lex_b3 a x6) ((fun x7 => ref07_Lex_j3 a x x1 x7) : Int → R ((Int × (List Token)) ⊕ ((List Token) ⊕ ((List Token) × Int × Int))))
                          (fun x6 => fun (fr : Nat → AV) (h : AHeap) => fr = frA [(0, (.str a)), (5, v), (6, (.int .i64 x6)), (7, (.int .i64 x))] ∧ h = hp h0 ids [(ownO v g 4 (List.map rToken x1)), none, none]) x ?_ ?_
                        · exact ⟨rfl, rfl⟩
                        · rintro vW3 hW3 x6 fr h ⟨rfl, rfl⟩
                          refine wr_mod (m' := ref07_Lex_b3 a x6) rfl (wr_mod (ref07_Lex_b3.eq_1 _ _) ?_)
                          refine wr_seq ?_
                          refine wr_seq ?_
                          refine wr_region ?_
                          refine wo_val (.int .i64 x6) rfl pv_move ?_
                          refine wo_val (.str a) rfl pv_move ?_
                          refine wo_val (.int .i64 (a.length : Int)) rfl (pv_len (len_str ti9)) ?_
                          refine wo_val (.bool (decide (x6 < (a.length : Int)))) rfl (pv_bin rfl rfl rfl) ?_
                          refine wo_val (.bool (decide (x6 < (a.length : Int)))) rfl pv_move ?_
                          refine wo_join 5 ((fun (b3 : Bool) => if b3 then
(.ok (.inl (IntKind.wrap .i64 (x6 + 1))))
else
(.ok (.inr (x6)))) : Bool → R (Int ⊕ Int)) (fun (b3 : Bool) (fr : Nat → AV) (h : AHeap) => fr = frA [(0, (.str a)), (5, v), (6, (.int .i64 x6)), (7, (.int .i64 x)), (100, (.bool b3))] ∧ h = hp h0 ids [(ownO v g 4 (List.map rToken x1)), none, none]) ?_ fun hJ6 => of_if1 (fun hb9 => ?_) (fun hb9 => ?_)
                          · rintro b3 fr h ⟨rfl, rfl⟩
                            refine wo_nil ?_
                            refine wf_iteb rfl (fun hc9 => ?_) (fun hc9 => ?_)
                            · refine wr_skip ?_
                              refine wr_block ?_
                              refine wr_region ?_
                              refine wo_val (.int .i64 x6) rfl pv_move ?_
                              refine wo_val (.int .i64 (IntKind.wrap .i64 (x6 + 1))) rfl (pv_bin rfl rfl rfl) ?_
                              refine wo_val (.int .i64 (IntKind.wrap .i64 (x6 + 1))) rfl pv_assign ?_
                              refine wo_nil ?_
                              refine wr_inBlock ?_
                              refine wr_is [(0, (.str a)), (5, v), (6, (.int .i64 (IntKind.wrap .i64 (x6 + 1)))), (7, (.int .i64 x))] (.cons rfl (.cons rfl (.cons rfl (.cons rfl .nil)))) ?_
                              refine wb_loop ?_
                              refine hW3 (IntKind.wrap .i64 (x6 + 1)) _ _ ?_
                              exact ⟨rfl, rfl⟩
                            · refine wr_exit rfl ?_
                              refine wx_loop ?_
                              refine wr_is [(0, (.str a)), (5, v), (6, (.int .i64 x6)), (7, (.int .i64 x))] (.cons rfl (.cons rfl (.cons rfl (.cons rfl .nil)))) ?_
                              refine hJ7 x6 _ _ ?_
                              exact ⟨rfl, rfl⟩
                          · refine wo_valg (tj := 95) (.str a) rfl (congrArg AV.bool hb9) rfl pv_move ?_
                            refine wo_valg (tj := 95) (.int .i64 x6) rfl (congrArg AV.bool hb9) rfl pv_move ?_
                            refine of_idx fun a5 hz4 hx5 => ?_
                            refine wo_valg (tj := 95) (.int .u8 (a5.toNat : Int)) rfl (congrArg AV.bool hb9) rfl (pv_ix (ix_str ti9 hz4 hx5)) ?_
                            refine of_call [(.int .u8 (a5.toNat : Int))] rfl (wanted_yes (tj := 95) rfl (congrArg AV.bool hb9)) rfl rfl ((cp_ref07_Figure (a5.toNat : Int)) _) (fun v _ => wu_pan Tryd.func13 hI) fun r5 _ => ?_
                            refine wo_val (.bool r5) rfl (pv_pick (t := true) (congrArg AV.bool hb9) rfl) ?_
                            refine wo_back1 ?_
                            refine wo_is [(0, (.str a)), (5, v), (6, (.int .i64 x6)), (7, (.int .i64 x)), (100, (.bool r5))] (.cons rfl (.cons rfl (.cons rfl (.cons rfl (.cons rfl .nil))))) ?_
                            exact hJ6 r5 _ _ ⟨rfl, rfl⟩
                          · refine wo_not (tj := 95) (b := false) rfl (congrArg AV.bool hb9) rfl rfl ?_
                            refine wo_not (tj := 95) (b := false) rfl (congrArg AV.bool hb9) rfl rfl ?_
                            refine wo_not (tj := 95) (b := false) rfl (congrArg AV.bool hb9) rfl rfl ?_
                            refine wo_not (tj := 95) (b := false) rfl (congrArg AV.bool hb9) rfl rfl ?_
                            refine wo_val (.bool false) rfl (pv_pick (t := false) (congrArg AV.bool hb9) rfl) ?_
                            refine wo_back1 ?_
                            refine wo_is [(0, (.str a)), (5, v), (6, (.int .i64 x6)), (7, (.int .i64 x)), (100, (.bool false))] (.cons rfl (.cons rfl (.cons rfl (.cons rfl (.cons rfl .nil))))) ?_
                            exact hJ6 false _ _ ⟨rfl, rfl⟩
                    · refine wr_skip ?_
                      refine wr_seq ?_
                      refine wr_seq ?_
                      refine wr_region ?_
                      refine wo_val (.str a) rfl pv_move ?_
                      refine wo_val (.int .i64 x) rfl pv_move ?_
                      refine wo_val (.int .u8 (a1.toNat : Int)) rfl (pv_ix (ix_str ti9 hz hx1)) ?_
                      refine of_call [(.int .u8 (a1.toNat : Int))] rfl rfl rfl rfl ((cp_ref07_Sign (a1.toNat : Int)) _) (fun v _ => wu_pan Tryd.func13 hI) fun r7 _ => ?_
                      refine wo_val (.bool (!r7)) rfl (pv_un rfl) ?_
                      refine wo_nil ?_
                      refine wf_itebn rfl (fun hc11 => ?_) (fun hc11 => ?_)
                      · refine wr_skip ?_
                        refine wr_seq ?_
                        refine wr_region ?_
                        refine wo_val (.int .i64 x) rfl pv_move ?_
                        refine wo_val (.int .i64 (IntKind.wrap .i64 (x + 1))) rfl (pv_bin rfl rfl rfl) ?_
                        refine wo_val (.int .i64 (IntKind.wrap .i64 (x + 1))) rfl pv_assign ?_
                        refine wo_nil ?_
                        refine wr_region ?_
                        refine wo_val v rfl pv_move ?_
                        refine wo_val (.str a) rfl pv_move ?_
                        refine wo_val (.int .i64 x) rfl pv_move ?_
                        refine wo_val (.int .i64 (IntKind.wrap .i64 (x + 1))) rfl pv_move ?_
                        refine of_need fun hs3 => ?_
                        refine wo_val (.str (cut a x (IntKind.wrap .i64 (x + 1)))) rfl (pv_slice (sl_str ti9 hs3)) ?_
                        refine wo_val (.int .i64 x) rfl pv_move ?_
                        refine wo_val (.agg [(.int .i64 3), (.str (cut a x (IntKind.wrap .i64 (x + 1)))), (.int .i64 0), (.int .i64 x)]) rfl (pv_build (bd_st ti35 pl35 rfl)) ?_
                        refine wo_bsC (e := rToken) (L := [({ Kind := 3, Text := (cut a x (IntKind.wrap .i64 (x + 1))), N := 0, At := x } : Token)]) (st := 4) (rows := [[(.int .i64 3), (.str (cut a x (IntKind.wrap .i64 (x + 1)))), (.int .i64 0), (.int .i64 x)]]) rfl ti23 ti35 rfl rfl rfl rfl rfl (.cons (.cons (.same _) (.cons (.same _) (.cons (.same _) (.cons (.same _) .nil)))) .nil) (fun x => ok_Token x) rfl rfl ?_
                        refine of_need fun hl2 => ?_
                        refine wo_append (e := rToken) (L := x1) (L2 := [({ Kind := 3, Text := (cut a x (IntKind.wrap .i64 (x + 1))), N := 0, At := x } : Token)]) (v := v) (g := g) (st := 4) (j := 0) hI rfl rfl rfl rfl vH rfl (src_sl rfl) ti23 ti23 rfl ti35 rfl rfl rfl hl2 fun v3 g3 vH3 => ?_
                        refine wo_val v3 rfl pv_assign ?_
                        refine wo_nil ?_
                        refine wr_hp [(ownO v3 g3 4 (List.map rToken (x1 ++ [({ Kind := 3, Text := (cut a x (IntKind.wrap .i64 (x + 1))), N := 0, At := x } : Token)]))), none, none] rfl ?_
                        refine wr_inBlock ?_
                        refine wr_is [(0, (.str a)), (5, v3), (6, (.int .i64 (IntKind.wrap .i64 (x + 1))))] (.cons rfl (.cons rfl (.cons rfl .nil))) ?_
                        refine wb_loop ?_
                        refine hW ((IntKind.wrap .i64 (x + 1)), (x1 ++ [({ Kind := 3, Text := (cut a x (IntKind.wrap .i64 (x + 1))), N := 0, At := x } : Token)])) _ _ ?_
                        exact ⟨v3, g3, vH3, rfl, rfl⟩
                      · refine wr_seq ?_
                        refine wr_region ?_
                        refine wo_val (.int .i64 x) rfl pv_move ?_
                        refine wo_val .emp rfl pv_assign ?_
                        refine wo_val (.int .i64 x) rfl pv_assign ?_
                        refine wo_val (.int .i64 70) rfl pv_assign ?_
                        refine wo_nil ?_
                        refine wx_loop ?_
                        refine w_altr ?_
                        exact wr_ret (a := ([], x, 70)) (vs := [.emp, (.int .i64 x), (.int .i64 70)]) Tryd.func13 hI rfl (.tupL (.cons (.emp _) (.cons (.same _) (.cons (.same _) .nil))))
              · refine wo_valg (tj := 36) (.str a) rfl (congrArg AV.bool hb3) rfl pv_move ?_
                refine wo_valg (tj := 36) (.int .i64 x) rfl (congrArg AV.bool hb3) rfl pv_move ?_
                refine wo_valg (tj := 36) (.int .i64 (IntKind.wrap .i64 (x + 1))) rfl (congrArg AV.bool hb3) rfl (pv_bin rfl rfl rfl) ?_
                refine of_idx fun a2 hz1 hx2 => ?_
                refine wo_valg (tj := 36) (.int .u8 (a2.toNat : Int)) rfl (congrArg AV.bool hb3) rfl (pv_ix (ix_str ti9 hz1 hx2)) ?_
                refine wo_valg (tj := 36) (.bool ((a2.toNat : Int) == 47)) rfl (congrArg AV.bool hb3) rfl (pv_bin rfl rfl rfl) ?_
                refine wo_val (.bool ((a2.toNat : Int) == 47)) rfl (pv_pick (t := true) (congrArg AV.bool hb3) rfl) ?_
                refine wo_back1 ?_
                refine wo_is [(0, (.str a)), (5, v), (6, (.int .i64 x)), (7, (.int .i64 x)), (42, (.bool ((a2.toNat : Int) == 47)))] (.cons rfl (.cons rfl (.cons rfl (.cons rfl (.cons rfl .nil))))) ?_
                exact hJ1 ((a2.toNat : Int) == 47) _ _ ⟨rfl, rfl⟩
              · refine wo_not (tj := 36) (b := false) rfl (congrArg AV.bool hb3) rfl rfl ?_
                refine wo_not (tj := 36) (b := false) rfl (congrArg AV.bool hb3) rfl rfl ?_
                refine wo_not (tj := 36) (b := false) rfl (congrArg AV.bool hb3) rfl rfl ?_
                refine wo_not (tj := 36) (b := false) rfl (congrArg AV.bool hb3) rfl rfl ?_
                refine wo_not (tj := 36) (b := false) rfl (congrArg AV.bool hb3) rfl rfl ?_
                refine wo_val (.bool false) rfl (pv_pick (t := false) (congrArg AV.bool hb3) rfl) ?_
                refine wo_back1 ?_
                refine wo_is [(0, (.str a)), (5, v), (6, (.int .i64 x)), (7, (.int .i64 x)), (42, (.bool false))] (.cons rfl (.cons rfl (.cons rfl (.cons rfl (.cons rfl .nil))))) ?_
                exact hJ1 false _ _ ⟨rfl, rfl⟩
            · refine wo_valg (tj := 29) (.int .i64 x) rfl (congrArg AV.bool hb1) rfl pv_move ?_
              refine wo_valg (tj := 29) (.int .i64 (IntKind.wrap .i64 (x + 1))) rfl (congrArg AV.bool hb1) rfl (pv_bin rfl rfl rfl) ?_
              refine wo_valg (tj := 29) (.str a) rfl (congrArg AV.bool hb1) rfl pv_move ?_
              refine wo_valg (tj := 29) (.int .i64 (a.length : Int)) rfl (congrArg AV.bool hb1) rfl (pv_len (len_str ti9)) ?_
              refine wo_valg (tj := 29) (.bool (decide ((IntKind.wrap .i64 (x + 1)) < (a.length : Int)))) rfl (congrArg AV.bool hb1) rfl (pv_bin rfl rfl rfl) ?_
              refine wo_val (.bool (decide ((IntKind.wrap .i64 (x + 1)) < (a.length : Int)))) rfl (pv_pick (t := true) (congrArg AV.bool hb1) rfl) ?_
              exact wo_is [(0, (.str a)), (5, v), (6, (.int .i64 x)), (7, (.int .i64 x)), (35, (.bool (((a1.toNat : Int) == 47) && (decide ((IntKind.wrap .i64 (x + 1)) < (a.length : Int))))))] (.cons rfl (.cons rfl (.cons rfl (.cons rfl (.cons (and_t hb1) .nil))))) hJ
            · refine wo_not (tj := 29) (b := false) rfl (congrArg AV.bool hb1) rfl rfl ?_
              refine wo_not (tj := 29) (b := false) rfl (congrArg AV.bool hb1) rfl rfl ?_
              refine wo_not (tj := 29) (b := false) rfl (congrArg AV.bool hb1) rfl rfl ?_
              refine wo_not (tj := 29) (b := false) rfl (congrArg AV.bool hb1) rfl rfl ?_
              refine wo_not (tj := 29) (b := false) rfl (congrArg AV.bool hb1) rfl rfl ?_
              refine wo_val (.bool false) rfl (pv_pick (t := false) (congrArg AV.bool hb1) rfl) ?_
              exact wo_is [(0, (.str a)), (5, v), (6, (.int .i64 x)), (7, (.int .i64 x)), (35, (.bool (((a1.toNat : Int) == 47) && (decide ((IntKind.wrap .i64 (x + 1)) < (a.length : Int))))))] (.cons rfl (.cons rfl (.cons rfl (.cons rfl (.cons (and_f hb1) .nil))))) hJ
        · refine wr_exit rfl ?_
          refine wx_loop ?_
          refine w_altl ?_
          refine wr_is [(5, v)] (.cons rfl .nil) ?_
          refine hJ8 x1 _ _ ?_
          exact ⟨v, g, vH, rfl, rfl⟩

theorem cp_law07_LexSpec (src : Str) : CP Tryd.prog 3 [(.str src)] (law07_LexSpec src) (fun (x : Bool) => (AV.bool x)) := by
  refine cp_intro (n := 39) 0 Tryd.func3 rfl (by decide) rfl rfl fun h0 ids hI => ?_
  refine wr_in (wr_mod (law07_LexSpec.eq_1 _) ?_)
  refine wr_seq ?_
  refine wr_region ?_
  refine wo_val (.bool false) rfl pv_assign ?_
  refine wo_nil ?_
  refine wr_seq ?_
  refine wr_seq ?_
  refine wr_region ?_
  refine of_call [] rfl rfl rfl rfl ((cp_law07_sane) _) (fun v _ => wu_pan Tryd.func3 hI) fun r _ => ?_
  refine wo_val (.bool (!r)) rfl (pv_un rfl) ?_
  refine wo_nil ?_
  refine wf_itebn rfl (fun hc => ?_) (fun hc => ?_)
  · refine wr_skip ?_
    refine wr_seq ?_
    refine wr_seq ?_
    refine wr_region ?_
    refine wo_val (.str src) rfl pv_move ?_
    refine wo_val (.int .i64 (src.length : Int)) rfl (pv_len (len_str ti9)) ?_
    refine wo_val (.bool (decide ((src.length : Int) > 70000))) rfl (pv_bin rfl rfl rfl) ?_
    refine wo_nil ?_
    refine wf_ite rfl (fun hc1 => ?_) (fun hc1 => ?_)
    · refine wr_seq ?_
      refine wr_region ?_
      refine wo_val (.bool true) rfl pv_assign ?_
      refine wo_nil ?_
      exact wr_ret (a := true) (vs := [(.bool true)]) Tryd.func3 hI rfl (.same _)
    · refine wr_skip ?_
      refine wr_seq ?_
      refine wr_region ?_
      refine wo_val (.str src) rfl pv_move ?_
      refine of_call [(.str src)] rfl rfl rfl rfl ((cp_lex_Lex src) _) (fun v _ => wu_pan Tryd.func3 hI) fun r1 _ => ?_
      refine wo_val (.tup [(.sl 4 (List.map rToken r1.1)), (.int .i64 r1.2.1), (.int .i64 r1.2.2)]) rfl pv_move ?_
      refine wo_val (.sl 4 (List.map rToken r1.1)) rfl (pv_ext rfl) ?_
      refine wo_val (.int .i64 r1.2.1) rfl (pv_ext rfl) ?_
      refine wo_val (.int .i64 r1.2.2) rfl (pv_ext rfl) ?_
      refine wo_val (.sl 4 (List.map rToken r1.1)) rfl pv_assign ?_
      refine wo_val (.int .i64 r1.2.1) rfl pv_assign ?_
      refine wo_val (.int .i64 r1.2.2) rfl pv_assign ?_
      refine wo_nil ?_
      refine wr_seq ?_
      refine wr_region ?_
      refine wo_val (.str src) rfl pv_move ?_
      refine of_call [(.str src)] rfl rfl rfl rfl ((cp_ref07_Lex src) _) (fun v _ => wu_pan Tryd.func3 hI) fun r2 _ => ?_
      refine wo_val (.tup [(.sl 4 (List.map rToken r2.1)), (.int .i64 r2.2.1), (.int .i64 r2.2.2)]) rfl pv_move ?_
      refine wo_val (.sl 4 (List.map rToken r2.1)) rfl (pv_ext rfl) ?_
      refine wo_val (.int .i64 r2.2.1) rfl (pv_ext rfl) ?_
      refine wo_val (.int .i64 r2.2.2) rfl (pv_ext rfl) ?_
      refine wo_val (.sl 4 (List.map rToken r2.1)) rfl pv_assign ?_
      refine wo_val (.int .i64 r2.2.1) rfl pv_assign ?_
      refine wo_val (.int .i64 r2.2.2) rfl pv_assign ?_
      refine wo_nil ?_
      refine wr_seq ?_
      refine wr_region ?_
      refine wo_val (.sl 4 (List.map rToken r1.1)) rfl pv_move ?_
      refine wo_val (.sl 4 (List.map rToken r2.1)) rfl pv_move ?_
      refine of_call [(.sl 4 (List.map rToken r1.1)), (.sl 4 (List.map rToken r2.1))] rfl rfl rfl rfl ((cp_ref07_Equal r1.1 r2.1) _) (fun v _ => wu_pan Tryd.func3 hI) fun r3 _ => ?_
      refine wo_val (.bool r3) rfl pv_move ?_
      refine wo_meet 4 [(5, (.int .i64 r1.2.2)), (8, (.int .i64 r2.2.2)), (33, (.bool (r3 && (r1.2.1 == r2.2.1))))] ?_ fun hJ => wo_cases r3 (fun hb1 => ?_) (fun hb1 => ?_)
      · refine wo_val (.bool (r3 && (r1.2.1 == r2.2.1))) rfl pv_move ?_
        refine wo_meet 4 [(38, (.bool ((r3 && (r1.2.1 == r2.2.1)) && (r1.2.2 == r2.2.2))))] ?_ fun hJ1 => wo_cases (r3 && (r1.2.1 == r2.2.1)) (fun hb3 => ?_) (fun hb3 => ?_)
        · refine wo_val (.bool ((r3 && (r1.2.1 == r2.2.1)) && (r1.2.2 == r2.2.2))) rfl pv_assign ?_
          refine wo_nil ?_
          exact wr_ret (a := ((r3 && (r1.2.1 == r2.2.1)) && (r1.2.2 == r2.2.2))) (vs := [(.bool ((r3 && (r1.2.1 == r2.2.1)) && (r1.2.2 == r2.2.2)))]) Tryd.func3 hI rfl (.same _)
        · refine wo_valg (tj := 34) (.int .i64 r1.2.2) rfl (congrArg AV.bool hb3) rfl pv_move ?_
          refine wo_valg (tj := 34) (.int .i64 r2.2.2) rfl (congrArg AV.bool hb3) rfl pv_move ?_
          refine wo_valg (tj := 34) (.bool (r1.2.2 == r2.2.2)) rfl (congrArg AV.bool hb3) rfl (pv_bin rfl rfl rfl) ?_
          refine wo_val (.bool (r1.2.2 == r2.2.2)) rfl (pv_pick (t := true) (congrArg AV.bool hb3) rfl) ?_
          exact wo_is [(38, (.bool ((r3 && (r1.2.1 == r2.2.1)) && (r1.2.2 == r2.2.2))))] (.cons (and_t hb3) .nil) hJ1
        · refine wo_not (tj := 34) (b := false) rfl (congrArg AV.bool hb3) rfl rfl ?_
          refine wo_not (tj := 34) (b := false) rfl (congrArg AV.bool hb3) rfl rfl ?_
          refine wo_not (tj := 34) (b := false) rfl (congrArg AV.bool hb3) rfl rfl ?_
          refine wo_val (.bool false) rfl (pv_pick (t := false) (congrArg AV.bool hb3) rfl) ?_
          exact wo_is [(38, (.bool ((r3 && (r1.2.1 == r2.2.1)) && (r1.2.2 == r2.2.2))))] (.cons (and_f hb3) .nil) hJ1
      · refine wo_valg (tj := 29) (.int .i64 r1.2.1) rfl (congrArg AV.bool hb1) rfl pv_move ?_
        refine wo_valg (tj := 29) (.int .i64 r2.2.1) rfl (congrArg AV.bool hb1) rfl pv_move ?_
        refine wo_valg (tj := 29) (.bool (r1.2.1 == r2.2.1)) rfl (congrArg AV.bool hb1) rfl (pv_bin rfl rfl rfl) ?_
        refine wo_val (.bool (r1.2.1 == r2.2.1)) rfl (pv_pick (t := true) (congrArg AV.bool hb1) rfl) ?_
        exact wo_is [(5, (.int .i64 r1.2.2)), (8, (.int .i64 r2.2.2)), (33, (.bool (r3 && (r1.2.1 == r2.2.1))))] (.cons rfl (.cons rfl (.cons (and_t hb1) .nil))) hJ
      · refine wo_not (tj := 29) (b := false) rfl (congrArg AV.bool hb1) rfl rfl ?_
        refine wo_not (tj := 29) (b := false) rfl (congrArg AV.bool hb1) rfl rfl ?_
        refine wo_not (tj := 29) (b := false) rfl (congrArg AV.bool hb1) rfl rfl ?_
        refine wo_val (.bool false) rfl (pv_pick (t := false) (congrArg AV.bool hb1) rfl) ?_
        exact wo_is [(5, (.int .i64 r1.2.2)), (8, (.int .i64 r2.2.2)), (33, (.bool (r3 && (r1.2.1 == r2.2.1))))] (.cons rfl (.cons rfl (.cons (and_f hb1) .nil))) hJ
  · refine wr_seq ?_
    refine wr_region ?_
    refine wo_val (.bool false) rfl pv_assign ?_
    refine wo_nil ?_
    exact wr_ret (a := false) (vs := [(.bool false)]) Tryd.func3 hI rfl (.same _)

theorem cp_ref07_Few (l : (List Token)) : CP Tryd.prog 15 [(.sl 4 (List.map rToken l))] (ref07_Few l) (fun (x : Bool) => (AV.bool x)) := by
  refine cp_intro (n := 26) 0 Tryd.func15 rfl (by decide) rfl rfl fun h0 ids hI => ?_
  refine wr_in (wr_mod (ref07_Few.eq_1 _) ?_)
  refine wr_seq ?_
  refine wr_region ?_
  refine wo_val (.bool false) rfl pv_assign ?_
  refine wo_nil ?_
  refine wr_seq ?_
  refine wr_region ?_
  refine wo_val (.int .i64 0) rfl pv_assign ?_
  refine wo_nil ?_
  refine wr_seq ?_
  refine wr_seq ?_
  refine wr_region ?_
  refine wo_val (.int .i64 0) rfl pv_assign ?_
  refine wo_nil ?_
  refine wr_block ?_
  refine wr_is [(0, (.sl 4 (List.map rToken l))), (3, (.int .i64 0)), (4, (.int .i64 0))] (.cons rfl (.cons rfl (.cons rfl .nil))) ?_
  refine wf_eachS' (P := Tryd.prog) l (fun _ a => fun n => ref07_Few_b1 a n) (((fun n => .ok ((decide ((l.length : Int) ≤ 200)) && (decide (n ≤ 2000))))) : Int → R Bool)
    (fun j => fun n => fun (fr : Nat → AV) (h : AHeap) => fr = frA [(0, (.sl 4 (List.map rToken l))), (3, (.int .i64 n)), (4, (.int .i64 (j : Int)))] ∧ h = hp h0 ids []) 0 ?_ ?_ ?_
  · exact ⟨rfl, rfl⟩
  · rintro j a ha W hW n fr h ⟨rfl, rfl⟩
    refine wr_mod (m' := ref07_Few_b1 a n) rfl (wr_mod (ref07_Few_b1.eq_1 _ _) ?_)
    refine wr_seq ?_
    refine wr_seq ?_
    refine wr_region ?_
    refine wo_val (.int .i64 (j : Int)) rfl pv_move ?_
    refine wo_val (.sl 4 (List.map rToken l)) rfl pv_move ?_
    refine wo_val (.int .i64 (l.length : Int)) rfl (pv_len (len_sl ti23)) ?_
    refine wo_val (.bool (decide ((j : Int) < (l.length : Int)))) rfl (pv_bin rfl rfl rfl) ?_
    refine wo_nil ?_
    refine wr_lim (t := 0) (L := l) rfl fun hlim => ?_
    refine wr_condT rfl (Int.ofNat_lt.2 (lt_of_get ha)) ?_
    refine wr_skip ?_
    refine wr_seq ?_
    refine wr_block ?_
    refine wr_region ?_
    refine wo_val (.int .i64 n) rfl pv_move ?_
    refine wo_val (.sl 4 (List.map rToken l)) rfl pv_move ?_
    refine wo_val (.int .i64 (j : Int)) rfl pv_move ?_
    refine wo_val (.cp (rToken a) 0) rfl (pv_ixa (ixa_nat ti23 ti35 rfl ha)) ?_
    refine wo_val (.cp (rToken a) 1) rfl (pv_fa (fa_cp (c := 0) (off := 1) (i := 1) ti35 rfl ti9 rfl)) ?_
    refine wo_val (.str a.Text) rfl (pv_load (ld_cp ti9 rfl)) ?_
    refine wo_val (.int .i64 (a.Text.length : Int)) rfl (pv_len (len_str ti9)) ?_
    refine wo_val (.int .i64 (IntKind.wrap .i64 (n + (a.Text.length : Int)))) rfl (pv_bin rfl rfl rfl) ?_
    refine wo_val (.int .i64 (IntKind.wrap .i64 (n + (a.Text.length : Int)))) rfl pv_assign ?_
    refine wo_nil ?_
    refine wr_inBlock ?_
    refine wr_region ?_
    refine wo_val (.int .i64 (j : Int)) rfl pv_move ?_
    refine wo_val (.int .i64 (IntKind.wrap .i64 ((j : Int) + 1))) rfl (pv_bin rfl rfl rfl) ?_
    refine wo_val (.int .i64 (IntKind.wrap .i64 ((j : Int) + 1))) rfl pv_assign ?_
    refine wo_nil ?_
    refine wr_is [(0, (.sl 4 (List.map rToken l))), (3, (.int .i64 (IntKind.wrap .i64 (n + (a.Text.length : Int))))), (4, (.int .i64 ((j + 1 : Nat) : Int)))] (.cons rfl (.cons rfl (.cons (inc_ok (lt_of_get ha) hlim) .nil))) ?_
    refine wb_S ?_
    refine hW (IntKind.wrap .i64 (n + (a.Text.length : Int))) _ _ ?_
    exact ⟨rfl, rfl⟩
  · rintro n fr h ⟨rfl, rfl⟩
    refine wr_seq ?_
    refine wr_seq ?_
    refine wr_region ?_
    refine wo_val (.int .i64 (l.length : Int)) rfl pv_move ?_
    refine wo_val (.sl 4 (List.map rToken l)) rfl pv_move ?_
    refine wo_val (.int .i64 (l.length : Int)) rfl (pv_len (len_sl ti23)) ?_
    refine wo_val (.bool (decide ((l.length : Int) < (l.length : Int)))) rfl (pv_bin rfl rfl rfl) ?_
    refine wo_nil ?_
    refine wr_condF rfl (Int.lt_irrefl _) ?_
    refine wr_exit rfl ?_
    refine wr_seq ?_
    refine wr_region ?_
    refine wo_val (.sl 4 (List.map rToken l)) rfl pv_move ?_
    refine wo_val (.int .i64 (l.length : Int)) rfl (pv_len (len_sl ti23)) ?_
    refine wo_val (.bool (decide ((l.length : Int) ≤ 200))) rfl (pv_bin rfl rfl rfl) ?_
    refine wo_val (.bool (decide ((l.length : Int) ≤ 200))) rfl pv_move ?_
    refine wo_meet 3 [(25, (.bool ((decide ((l.length : Int) ≤ 200)) && (decide (n ≤ 2000)))))] ?_ fun hJ => wo_cases (decide ((l.length : Int) ≤ 200)) (fun hb1 => ?_) (fun hb1 => ?_)
    · refine wo_val (.bool ((decide ((l.length : Int) ≤ 200)) && (decide (n ≤ 2000)))) rfl pv_assign ?_
      refine wo_nil ?_
      exact wr_ret (a := ((decide ((l.length : Int) ≤ 200)) && (decide (n ≤ 2000)))) (vs := [(.bool ((decide ((l.length : Int) ≤ 200)) && (decide (n ≤ 2000))))]) Tryd.func15 hI rfl (.same _)
    · refine wo_valg (tj := 22) (.int .i64 n) rfl (congrArg AV.bool hb1) rfl pv_move ?_
      refine wo_valg (tj := 22) (.bool (decide (n ≤ 2000))) rfl (congrArg AV.bool hb1) rfl (pv_bin rfl rfl rfl) ?_
      refine wo_val (.bool (decide (n ≤ 2000))) rfl (pv_pick (t := true) (congrArg AV.bool hb1) rfl) ?_
      exact wo_is [(25, (.bool ((decide ((l.length : Int) ≤ 200)) && (decide (n ≤ 2000)))))] (.cons (and_t hb1) .nil) hJ
    · refine wo_not (tj := 22) (b := false) rfl (congrArg AV.bool hb1) rfl rfl ?_
      refine wo_not (tj := 22) (b := false) rfl (congrArg AV.bool hb1) rfl rfl ?_
      refine wo_val (.bool false) rfl (pv_pick (t := false) (congrArg AV.bool hb1) rfl) ?_
      exact wo_is [(25, (.bool ((decide ((l.length : Int) ≤ 200)) && (decide (n ≤ 2000)))))] (.cons (and_f hb1) .nil) hJ

theorem cp_ref07_Valid (t : Token) : CP Tryd.prog 39 [(.agg (rToken t))] (ref07_Valid t) (fun (x : Bool) => (AV.bool x)) := by
  refine cp_intro (n := 47) 1 Tryd.func39 rfl (by decide) rfl rfl fun h0 ids hI => ?_
  refine wr_in (wr_mod (ref07_Valid.eq_1 _) ?_)
  refine wr_seq ?_
  refine wr_region ?_
  refine wo_box (v := (.agg (rToken t))) (j := 0) hI rfl rfl rfl rfl rfl rfl rfl fun g => ?_
  refine wo_val (.bool false) rfl pv_assign ?_
  refine wo_nil ?_
  refine wr_hp [(some (.rows g 4 [(rToken t)]))] rfl ?_
  refine wr_seq ?_
  refine wr_seq ?_
  refine wr_region ?_
  refine wo_val (.ptr (ix ids 0) g 0 0) rfl (pv_fa (fa_ptr (c := 0) (off := 0) (i := 0) ti35 rfl ti3 rfl)) ?_
  refine wo_val (.int .i64 t.Kind) rfl (pv_load (ld_ptr hI rfl rfl rfl ti3 rfl)) ?_
  refine wo_nil ?_
  refine wr_block ?_
  refine wr_seq ?_
  refine wr_region ?_
  refine wo_val (.bool (t.Kind == 1)) rfl (pv_bin rfl rfl rfl) ?_
  refine wo_val (.bool (t.Kind == 1)) rfl pv_assign ?_
  refine wo_nil ?_
  refine wf_iteb rfl (fun hc => ?_) (fun hc => ?_)
  · refine wr_seq ?_
    refine wr_region ?_
    refine wo_val (.ptr (ix ids 0) g 0 1) rfl (pv_fa (fa_ptr (c := 0) (off := 1) (i := 1) ti35 rfl ti9 rfl)) ?_
    refine wo_val (.str t.Text) rfl (pv_load (ld_ptr hI rfl rfl rfl ti9 rfl)) ?_
    refine of_call [(.str t.Text)] rfl rfl rfl rfl ((cp_ref07_Name t.Text) _) (fun v _ => wu_pan Tryd.func39 hI) fun r _ => ?_
    refine wo_val (.bool r) rfl pv_move ?_
    refine wo_meet 4 [(14, (.bool (r && (t.N == 0))))] ?_ fun hJ => wo_cases r (fun hb1 => ?_) (fun hb1 => ?_)
    · refine wo_val (.bool (r && (t.N == 0))) rfl pv_assign ?_
      refine wo_nil ?_
      exact wr_ret (a := (r && (t.N == 0))) (vs := [(.bool (r && (t.N == 0)))]) Tryd.func39 hI rfl (.same _)
    · refine wo_valg (tj := 10) (.ptr (ix ids 0) g 0 2) rfl (congrArg AV.bool hb1) rfl (pv_fa (fa_ptr (c := 0) (off := 2) (i := 2) ti35 rfl ti3 rfl)) ?_
      refine wo_valg (tj := 10) (.int .i64 t.N) rfl (congrArg AV.bool hb1) rfl (pv_load (ld_ptr hI rfl rfl rfl ti3 rfl)) ?_
      refine wo_valg (tj := 10) (.bool (t.N == 0)) rfl (congrArg AV.bool hb1) rfl (pv_bin rfl rfl rfl) ?_
      refine wo_val (.bool (t.N == 0)) rfl (pv_pick (t := true) (congrArg AV.bool hb1) rfl) ?_
      exact wo_is [(14, (.bool (r && (t.N == 0))))] (.cons (and_t hb1) .nil) hJ
    · refine wo_not (tj := 10) (b := false) rfl (congrArg AV.bool hb1) rfl rfl ?_
      refine wo_not (tj := 10) (b := false) rfl (congrArg AV.bool hb1) rfl rfl ?_
      refine wo_not (tj := 10) (b := false) rfl (congrArg AV.bool hb1) rfl rfl ?_
      refine wo_val (.bool false) rfl (pv_pick (t := false) (congrArg AV.bool hb1) rfl) ?_
      exact wo_is [(14, (.bool (r && (t.N == 0))))] (.cons (and_f hb1) .nil) hJ
  · refine wr_seq ?_
    refine wr_region ?_
    refine wo_val (.bool (t.Kind == 2)) rfl (pv_bin rfl rfl rfl) ?_
    refine wo_val (.bool (t.Kind == 2)) rfl pv_assign ?_
    refine wo_nil ?_
    refine wf_iteb rfl (fun hc1 => ?_) (fun hc1 => ?_)
    · refine wr_seq ?_
      refine wr_region ?_
      refine wo_val (.ptr (ix ids 0) g 0 1) rfl (pv_fa (fa_ptr (c := 0) (off := 1) (i := 1) ti35 rfl ti9 rfl)) ?_
      refine wo_val (.str t.Text) rfl (pv_load (ld_ptr hI rfl rfl rfl ti9 rfl)) ?_
      refine wo_val (.bool (t.Text == [])) rfl (pv_bin rfl rfl rfl) ?_
      refine wo_val (.bool (t.Text == [])) rfl pv_move ?_
      refine wo_meet 4 [(1, (.ptr (ix ids 0) g 0 0)), (24, (.bool ((t.Text == []) && (decide (t.N ≥ 0)))))] ?_ fun hJ1 => wo_cases (t.Text == []) (fun hb3 => ?_) (fun hb3 => ?_)
      · refine wo_val (.bool ((t.Text == []) && (decide (t.N ≥ 0)))) rfl pv_move ?_
        refine wo_meet 4 [(29, (.bool (((t.Text == []) && (decide (t.N ≥ 0))) && (decide (t.N ≤ 1099511627776)))))] ?_ fun hJ2 => wo_cases ((t.Text == []) && (decide (t.N ≥ 0))) (fun hb5 => ?_) (fun hb5 => ?_)
        · refine wo_val (.bool (((t.Text == []) && (decide (t.N ≥ 0))) && (decide (t.N ≤ 1099511627776)))) rfl pv_assign ?_
          refine wo_nil ?_
          exact wr_ret (a := (((t.Text == []) && (decide (t.N ≥ 0))) && (decide (t.N ≤ 1099511627776)))) (vs := [(.bool (((t.Text == []) && (decide (t.N ≥ 0))) && (decide (t.N ≤ 1099511627776))))]) Tryd.func39 hI rfl (.same _)
        · refine wo_valg (tj := 25) (.ptr (ix ids 0) g 0 2) rfl (congrArg AV.bool hb5) rfl (pv_fa (fa_ptr (c := 0) (off := 2) (i := 2) ti35 rfl ti3 rfl)) ?_
          refine wo_valg (tj := 25) (.int .i64 t.N) rfl (congrArg AV.bool hb5) rfl (pv_load (ld_ptr hI rfl rfl rfl ti3 rfl)) ?_
          refine wo_valg (tj := 25) (.bool (decide (t.N ≤ 1099511627776))) rfl (congrArg AV.bool hb5) rfl (pv_bin rfl rfl rfl) ?_
          refine wo_val (.bool (decide (t.N ≤ 1099511627776))) rfl (pv_pick (t := true) (congrArg AV.bool hb5) rfl) ?_
          exact wo_is [(29, (.bool (((t.Text == []) && (decide (t.N ≥ 0))) && (decide (t.N ≤ 1099511627776)))))] (.cons (and_t hb5) .nil) hJ2
        · refine wo_not (tj := 25) (b := false) rfl (congrArg AV.bool hb5) rfl rfl ?_
          refine wo_not (tj := 25) (b := false) rfl (congrArg AV.bool hb5) rfl rfl ?_
          refine wo_not (tj := 25) (b := false) rfl (congrArg AV.bool hb5) rfl rfl ?_
          refine wo_val (.bool false) rfl (pv_pick (t := false) (congrArg AV.bool hb5) rfl) ?_
          exact wo_is [(29, (.bool (((t.Text == []) && (decide (t.N ≥ 0))) && (decide (t.N ≤ 1099511627776)))))] (.cons (and_f hb5) .nil) hJ2
      · refine wo_valg (tj := 20) (.ptr (ix ids 0) g 0 2) rfl (congrArg AV.bool hb3) rfl (pv_fa (fa_ptr (c := 0) (off := 2) (i := 2) ti35 rfl ti3 rfl)) ?_
        refine wo_valg (tj := 20) (.int .i64 t.N) rfl (congrArg AV.bool hb3) rfl (pv_load (ld_ptr hI rfl rfl rfl ti3 rfl)) ?_
        refine wo_valg (tj := 20) (.bool (decide (t.N ≥ 0))) rfl (congrArg AV.bool hb3) rfl (pv_bin rfl rfl rfl) ?_
        refine wo_val (.bool (decide (t.N ≥ 0))) rfl (pv_pick (t := true) (congrArg AV.bool hb3) rfl) ?_
        exact wo_is [(1, (.ptr (ix ids 0) g 0 0)), (24, (.bool ((t.Text == []) && (decide (t.N ≥ 0)))))] (.cons rfl (.cons (and_t hb3) .nil)) hJ1
      · refine wo_not (tj := 20) (b := false) rfl (congrArg AV.bool hb3) rfl rfl ?_
        refine wo_not (tj := 20) (b := false) rfl (congrArg AV.bool hb3) rfl rfl ?_
        refine wo_not (tj := 20) (b := false) rfl (congrArg AV.bool hb3) rfl rfl ?_
        refine wo_val (.bool false) rfl (pv_pick (t := false) (congrArg AV.bool hb3) rfl) ?_
        exact wo_is [(1, (.ptr (ix ids 0) g 0 0)), (24, (.bool ((t.Text == []) && (decide (t.N ≥ 0)))))] (.cons rfl (.cons (and_f hb3) .nil)) hJ1
    · refine wr_seq ?_
      refine wr_region ?_
      refine wo_val (.bool (t.Kind == 3)) rfl (pv_bin rfl rfl rfl) ?_
      refine wo_val (.bool (t.Kind == 3)) rfl pv_assign ?_
      refine wo_nil ?_
      refine wf_iteb rfl (fun hc2 => ?_) (fun hc2 => ?_)
      · refine wr_seq ?_
        refine wr_region ?_
        refine wo_val (.ptr (ix ids 0) g 0 1) rfl (pv_fa (fa_ptr (c := 0) (off := 1) (i := 1) ti35 rfl ti9 rfl)) ?_
        refine wo_val (.str t.Text) rfl (pv_load (ld_ptr hI rfl rfl rfl ti9 rfl)) ?_
        refine wo_val (.int .i64 (t.Text.length : Int)) rfl (pv_len (len_str ti9)) ?_
        refine wo_val (.bool ((t.Text.length : Int) == 1)) rfl (pv_bin rfl rfl rfl) ?_
        refine wo_val (.bool ((t.Text.length : Int) == 1)) rfl pv_move ?_
        refine wo_join 5 ((fun (b : Bool) => .ok (b && (t.N == 0))) : Bool → R Bool) (fun (b : Bool) (fr : Nat → AV) (h : AHeap) => fr = frA [(1, (.ptr (ix ids 0) g 0 0)), (41, (.bool b))] ∧ h = hp h0 ids [(some (.rows g 4 [(rToken t)]))]) ?_ fun hJ3 => of_if1 (fun hb7 => ?_) (fun hb7 => ?_)
        · rintro b fr h ⟨rfl, rfl⟩
          refine wo_val (.bool b) rfl pv_move ?_
          refine wo_meet 4 [(46, (.bool (b && (t.N == 0))))] ?_ fun hJ4 => wo_cases b (fun hb9 => ?_) (fun hb9 => ?_)
          · refine wo_val (.bool (b && (t.N == 0))) rfl pv_assign ?_
            refine wo_nil ?_
            exact wr_ret (a := (b && (t.N == 0))) (vs := [(.bool (b && (t.N == 0)))]) Tryd.func39 hI rfl (.same _)
          · refine wo_valg (tj := 42) (.ptr (ix ids 0) g 0 2) rfl (congrArg AV.bool hb9) rfl (pv_fa (fa_ptr (c := 0) (off := 2) (i := 2) ti35 rfl ti3 rfl)) ?_
            refine wo_valg (tj := 42) (.int .i64 t.N) rfl (congrArg AV.bool hb9) rfl (pv_load (ld_ptr hI rfl rfl rfl ti3 rfl)) ?_
            refine wo_valg (tj := 42) (.bool (t.N == 0)) rfl (congrArg AV.bool hb9) rfl (pv_bin rfl rfl rfl) ?_
            refine wo_val (.bool (t.N == 0)) rfl (pv_pick (t := true) (congrArg AV.bool hb9) rfl) ?_
            exact wo_is [(46, (.bool (b && (t.N == 0))))] (.cons (and_t hb9) .nil) hJ4
          · refine wo_not (tj := 42) (b := false) rfl (congrArg AV.bool hb9) rfl rfl ?_
            refine wo_not (tj := 42) (b := false) rfl (congrArg AV.bool hb9) rfl rfl ?_
            refine wo_not (tj := 42) (b := false) rfl (congrArg AV.bool hb9) rfl rfl ?_
            refine wo_val (.bool false) rfl (pv_pick (t := false) (congrArg AV.bool hb9) rfl) ?_
            exact wo_is [(46, (.bool (b && (t.N == 0))))] (.cons (and_f hb9) .nil) hJ4
        · refine wo_valg (tj := 36) (.ptr (ix ids 0) g 0 1) rfl (congrArg AV.bool hb7) rfl (pv_fa (fa_ptr (c := 0) (off := 1) (i := 1) ti35 rfl ti9 rfl)) ?_
          refine wo_valg (tj := 36) (.str t.Text) rfl (congrArg AV.bool hb7) rfl (pv_load (ld_ptr hI rfl rfl rfl ti9 rfl)) ?_
          refine of_idx fun a hz hx1 => ?_
          refine wo_valg (tj := 36) (.int .u8 (a.toNat : Int)) rfl (congrArg AV.bool hb7) rfl (pv_ix (ix_str ti9 hz hx1)) ?_
          refine of_call [(.int .u8 (a.toNat : Int))] rfl (wanted_yes (tj := 36) rfl (congrArg AV.bool hb7)) rfl rfl ((cp_ref07_Sign (a.toNat : Int)) _) (fun v _ => wu_pan Tryd.func39 hI) fun r1 _ => ?_
          refine wo_val (.bool r1) rfl (pv_pick (t := true) (congrArg AV.bool hb7) rfl) ?_
          refine wo_back1 ?_
          refine wo_is [(1, (.ptr (ix ids 0) g 0 0)), (41, (.bool r1))] (.cons rfl (.cons rfl .nil)) ?_
          exact hJ3 r1 _ _ ⟨rfl, rfl⟩
        · refine wo_not (tj := 36) (b := false) rfl (congrArg AV.bool hb7) rfl rfl ?_
          refine wo_not (tj := 36) (b := false) rfl (congrArg AV.bool hb7) rfl rfl ?_
          refine wo_not (tj := 36) (b := false) rfl (congrArg AV.bool hb7) rfl rfl ?_
          refine wo_not (tj := 36) (b := false) rfl (congrArg AV.bool hb7) rfl rfl ?_
          refine wo_val (.bool false) rfl (pv_pick (t := false) (congrArg AV.bool hb7) rfl) ?_
          refine wo_back1 ?_
          refine wo_is [(1, (.ptr (ix ids 0) g 0 0)), (41, (.bool false))] (.cons rfl (.cons rfl .nil)) ?_
          exact hJ3 false _ _ ⟨rfl, rfl⟩
      · refine wr_skip ?_
        refine wr_inBlock ?_
        refine wr_seq ?_
        refine wr_region ?_
        refine wo_val (.bool false) rfl pv_assign ?_
        refine wo_nil ?_
        exact wr_ret (a := false) (vs := [(.bool false)]) Tryd.func39 hI rfl (.same _)

theorem cp_ref07_Decimal (n : Int) : CP Tryd.prog 40 [(.int .i64 n)] (ref07_Decimal n) (fun (x : Str) => (AV.str x)) := by
  refine cp_intro (n := 23) 0 Tryd.func40 rfl (by decide) rfl rfl fun h0 ids hI => ?_
  refine wr_in (wr_mod (ref07_Decimal.eq_1 _) ?_)
  refine wr_seq ?_
  refine wr_region ?_
  refine wo_val (.str []) rfl pv_assign ?_
  refine wo_nil ?_
  refine wr_seq ?_
  refine wr_region ?_
  refine wo_val (.int .i64 n) rfl pv_move ?_
  refine wo_val (.int .i64 (Int.tmod n 10)) rfl (pv_bin rfl rfl (bin_rem rfl (by decide))) ?_
  refine wo_val (.int .i64 (IntKind.wrap .i64 (48 + (Int.tmod n 10)))) rfl (pv_bin rfl rfl rfl) ?_
  refine wo_val (.int .u8 (IntKind.wrap .u8 (IntKind.wrap .i64 (48 + (Int.tmod n 10))))) rfl (pv_conv (cv_int ti3 ti5)) ?_
  refine wo_bsC (e := (rI .u8)) (L := [(IntKind.wrap .u8 (IntKind.wrap .i64 (48 + (Int.tmod n 10))))]) (st := 1) (rows := [[(.int .u8 (IntKind.wrap .u8 (IntKind.wrap .i64 (48 + (Int.tmod n 10)))))]]) rfl ti39 ti5 rfl rfl rfl rfl rfl (.cons (RowSim.refl _) .nil) (fun x => ok_I x) rfl rfl ?_
  refine wo_val (.str (strOf [(IntKind.wrap .u8 (IntKind.wrap .i64 (48 + (Int.tmod n 10))))])) rfl (pv_conv (cv_bsl ti39 ti9 ti5 rfl)) ?_
  refine wo_val (.str (strOf [(IntKind.wrap .u8 (IntKind.wrap .i64 (48 + (Int.tmod n 10))))])) rfl pv_assign ?_
  refine wo_nil ?_
  refine wr_seq ?_
  refine wf_join (fun s1 => ref07_Decimal_j1 s1) (fun s1 => fun (fr : Nat → AV) (h : AHeap) => fr = frA [(3, (.str s1))] ∧ h = hp h0 ids []) ?_ fun hJ => ?_
  · rintro s1 fr h ⟨rfl, rfl⟩
    refine wr_mod (ref07_Decimal_j1.eq_1 _) ?_
    refine wr_seq ?_
    refine wr_region ?_
    refine wo_val (.str s1) rfl pv_move ?_
    refine wo_val (.str s1) rfl pv_assign ?_
    refine wo_nil ?_
    exact wr_ret (a := s1) (vs := [(.str s1)]) Tryd.func40 hI rfl (.same _)
  · refine wr_block ?_
    refine wr_is [(0, (.int .i64 n)), (3, (.str (strOf [(IntKind.wrap .u8 (IntKind.wrap .i64 (48 + (Int.tmod n 10))))])))] (.cons rfl (.cons rfl .nil)) ?_
    refine wf_loop' (P := Tryd.prog) (un2 fun n1 s => ref07_Decimal_b1 n1 s) ((fun s1 => ref07_Decimal_j1 s1) : Str → R Str)
      (un2 fun n1 s => fun (fr : Nat → AV) (h : AHeap) => fr = frA [(0, (.int .i64 n1)), (3, (.str s))] ∧ h = hp h0 ids []) (n, (strOf [(IntKind.wrap .u8 (IntKind.wrap .i64 (48 + (Int.tmod n 10))))])) ?_ ?_
    · exact ⟨rfl, rfl⟩
    · rintro vW hW ⟨n1, s⟩ fr h ⟨rfl, rfl⟩
      refine wr_mod (m' := ref07_Decimal_b1 n1 s) rfl (wr_mod (ref07_Decimal_b1.eq_1 _ _) ?_)
      refine wr_seq ?_
      refine wr_seq ?_
      refine wr_region ?_
      refine wo_val (.int .i64 n1) rfl pv_move ?_
      refine wo_val (.bool (decide (n1 ≥ 10))) rfl (pv_bin rfl rfl rfl) ?_
      refine wo_nil ?_
      refine wf_ite rfl (fun hc => ?_) (fun hc => ?_)
      · refine wr_skip ?_
        refine wr_block ?_
        refine wr_seq ?_
        refine wr_region ?_
        refine wo_val (.int .i64 n1) rfl pv_move ?_
        refine wo_val (.int .i64 (IntKind.wrap .i64 (Int.tdiv n1 10))) rfl (pv_bin rfl rfl (bin_quo rfl (by decide))) ?_
        refine wo_val (.int .i64 (IntKind.wrap .i64 (Int.tdiv n1 10))) rfl pv_assign ?_
        refine wo_nil ?_
        refine wr_region ?_
        refine wo_val (.int .i64 (IntKind.wrap .i64 (Int.tdiv n1 10))) rfl pv_move ?_
        refine wo_val (.int .i64 (Int.tmod (IntKind.wrap .i64 (Int.tdiv n1 10)) 10)) rfl (pv_bin rfl rfl (bin_rem rfl (by decide))) ?_
        refine wo_val (.int .i64 (IntKind.wrap .i64 (48 + (Int.tmod (IntKind.wrap .i64 (Int.tdiv n1 10)) 10)))) rfl (pv_bin rfl rfl rfl) ?_
        refine wo_val (.int .u8 (IntKind.wrap .u8 (IntKind.wrap .i64 (48 + (Int.tmod (IntKind.wrap .i64 (Int.tdiv n1 10)) 10))))) rfl (pv_conv (cv_int ti3 ti5)) ?_
        refine wo_bsC (e := (rI .u8)) (L := [(IntKind.wrap .u8 (IntKind.wrap .i64 (48 + (Int.tmod (IntKind.wrap .i64 (Int.tdiv n1 10)) 10))))]) (st := 1) (rows := [[(.int .u8 (IntKind.wrap .u8 (IntKind.wrap .i64 (48 + (Int.tmod (IntKind.wrap .i64 (Int.tdiv n1 10)) 10)))))]]) rfl ti39 ti5 rfl rfl rfl rfl rfl (.cons (RowSim.refl _) .nil) (fun x => ok_I x) rfl rfl ?_
        refine wo_val (.str (strOf [(IntKind.wrap .u8 (IntKind.wrap .i64 (48 + (Int.tmod (IntKind.wrap .i64 (Int.tdiv n1 10)) 10))))])) rfl (pv_conv (cv_bsl ti39 ti9 ti5 rfl)) ?_
        refine wo_val (.str s) rfl pv_move ?_
        refine of_need fun hl => ?_
        refine wo_val (.str ((strOf [(IntKind.wrap .u8 (IntKind.wrap .i64 (48 + (Int.tmod (IntKind.wrap .i64 (Int.tdiv n1 10)) 10))))]) ++ s)) rfl (pv_bin rfl rfl (bin_cat hl)) ?_
        refine wo_val (.str ((strOf [(IntKind.wrap .u8 (IntKind.wrap .i64 (48 + (Int.tmod (IntKind.wrap .i64 (Int.tdiv n1 10)) 10))))]) ++ s)) rfl pv_assign ?_
        refine wo_nil ?_
        refine wr_inBlock ?_
        refine wr_is [(0, (.int .i64 (IntKind.wrap .i64 (Int.tdiv n1 10)))), (3, (.str ((strOf [(IntKind.wrap .u8 (IntKind.wrap .i64 (48 + (Int.tmod (IntKind.wrap .i64 (Int.tdiv n1 10)) 10))))]) ++ s)))] (.cons rfl (.cons rfl .nil)) ?_
        refine wb_loop ?_
        refine hW ((IntKind.wrap .i64 (Int.tdiv n1 10)), ((strOf [(IntKind.wrap .u8 (IntKind.wrap .i64 (48 + (Int.tmod (IntKind.wrap .i64 (Int.tdiv n1 10)) 10))))]) ++ s)) _ _ ?_
        exact ⟨rfl, rfl⟩
      · refine wr_exit rfl ?_
        refine wx_loop ?_
        refine wr_is [(3, (.str s))] (.cons rfl .nil) ?_
        refine hJ s _ _ ?_
        exact ⟨rfl, rfl⟩

theorem cp_ref07_Text (l : (List Token)) : CP Tryd.prog 17 [(.sl 4 (List.map rToken l))] (ref07_Text l) (fun (p : (Str × Int)) => AV.tup [(.str p.1), (.int .i64 p.2)]) := by
  refine cp_intro (n := 44) 0 Tryd.func17 rfl (by decide) rfl rfl fun h0 ids hI => ?_
  refine wr_in (wr_mod (ref07_Text.eq_1 _) ?_)
  refine wr_seq ?_
  refine wr_region ?_
  refine wo_val (.str []) rfl pv_assign ?_
  refine wo_val (.int .i64 0) rfl pv_assign ?_
  refine wo_nil ?_
  refine wr_seq ?_
  refine wr_region ?_
  refine wo_val (.str []) rfl pv_assign ?_
  refine wo_nil ?_
  refine wr_seq ?_
  refine wr_seq ?_
  refine wr_region ?_
  refine wo_val (.int .i64 0) rfl pv_assign ?_
  refine wo_nil ?_
  refine wr_block ?_
  refine wr_is [(0, (.sl 4 (List.map rToken l))), (4, (.str [])), (5, (.int .i64 0))] (.cons rfl (.cons rfl (.cons rfl .nil))) ?_
  refine wf_each' (P := Tryd.prog) l (fun j a => fun s => ref07_Text_b1 j a s) ((alt (fun s => .ok (s, 0)) (fun r => .ok r)) : (Str ⊕ (Str × Int)) → R (Str × Int))
    (fun j => fun s => fun (fr : Nat → AV) (h : AHeap) => fr = frA [(0, (.sl 4 (List.map rToken l))), (4, (.str s)), (5, (.int .i64 (j : Int)))] ∧ h = hp h0 ids []) [] ?_ ?_ ?_
  · exact ⟨rfl, rfl⟩
  · rintro j a ha W hW s fr h ⟨rfl, rfl⟩
    refine wr_mod (m' := ref07_Text_b1 j a s) rfl (wr_mod (ref07_Text_b1.eq_1 _ _ _) ?_)
    refine wr_seq ?_
    refine wr_seq ?_
    refine wr_region ?_
    refine wo_val (.int .i64 (j : Int)) rfl pv_move ?_
    refine wo_val (.sl 4 (List.map rToken l)) rfl pv_move ?_
    refine wo_val (.int .i64 (l.length : Int)) rfl (pv_len (len_sl ti23)) ?_
    refine wo_val (.bool (decide ((j : Int) < (l.length : Int)))) rfl (pv_bin rfl rfl rfl) ?_
    refine wo_nil ?_
    refine wr_lim (t := 0) (L := l) rfl fun hlim => ?_
    refine wr_condT rfl (Int.ofNat_lt.2 (lt_of_get ha)) ?_
    refine wr_skip ?_
    refine wr_seq ?_
    refine wr_block ?_
    refine wr_seq ?_
    refine wr_seq ?_
    refine wr_region ?_
    refine wo_val (.sl 4 (List.map rToken l)) rfl pv_move ?_
    refine wo_val (.int .i64 (j : Int)) rfl pv_move ?_
    refine wo_val (.cp (rToken a) 0) rfl (pv_ixa (ixa_nat ti23 ti35 rfl ha)) ?_
    refine wo_val (.agg (rToken a)) rfl (pv_load (ld_cp ti35 rfl)) ?_
    refine of_call [(.agg (rToken a))] rfl rfl rfl rfl ((cp_ref07_Valid a) _) (fun v _ => wu_pan Tryd.func17 hI) fun r _ => ?_
    refine wo_val (.bool (!r)) rfl (pv_un rfl) ?_
    refine wo_nil ?_
    refine wf_itebn rfl (fun hc => ?_) (fun hc => ?_)
    · refine wr_skip ?_
      refine wr_seq ?_
      refine wr_seq ?_
      refine wr_region ?_
      refine wo_val (.int .i64 (j : Int)) rfl pv_move ?_
      refine wo_val (.bool (decide ((j : Int) > 0))) rfl (pv_bin rfl rfl rfl) ?_
      refine wo_nil ?_
      refine wf_join (fun s1 => ref07_Text_j1 a s1) (fun s1 => fun (fr : Nat → AV) (h : AHeap) => fr = frA [(0, (.sl 4 (List.map rToken l))), (4, (.str s1)), (5, (.int .i64 (j : Int)))] ∧ h = hp h0 ids []) ?_ fun hJ => ?_
      · rintro s1 fr h ⟨rfl, rfl⟩
        refine wr_mod (ref07_Text_j1.eq_1 _ _) ?_
        refine wr_seq ?_
        refine wr_region ?_
        refine wo_val (.sl 4 (List.map rToken l)) rfl pv_move ?_
        refine wo_val (.int .i64 (j : Int)) rfl pv_move ?_
        refine wo_val (.cp (rToken a) 0) rfl (pv_ixa (ixa_nat ti23 ti35 rfl ha)) ?_
        refine wo_val (.cp (rToken a) 0) rfl (pv_fa (fa_cp (c := 0) (off := 0) (i := 0) ti35 rfl ti3 rfl)) ?_
        refine wo_val (.int .i64 a.Kind) rfl (pv_load (ld_cp ti3 rfl)) ?_
        refine wo_val (.bool (a.Kind == 2)) rfl (pv_bin rfl rfl rfl) ?_
        refine wo_nil ?_
        refine wf_iteb rfl (fun hc2 => ?_) (fun hc2 => ?_)
        · refine wr_region ?_
          refine wo_val (.str s1) rfl pv_move ?_
          refine wo_val (.sl 4 (List.map rToken l)) rfl pv_move ?_
          refine wo_val (.int .i64 (j : Int)) rfl pv_move ?_
          refine wo_val (.cp (rToken a) 0) rfl (pv_ixa (ixa_nat ti23 ti35 rfl ha)) ?_
          refine wo_val (.cp (rToken a) 2) rfl (pv_fa (fa_cp (c := 0) (off := 2) (i := 2) ti35 rfl ti3 rfl)) ?_
          refine wo_val (.int .i64 a.N) rfl (pv_load (ld_cp ti3 rfl)) ?_
          refine of_call [(.int .i64 a.N)] rfl rfl rfl rfl ((cp_ref07_Decimal a.N) _) (fun v _ => wu_pan Tryd.func17 hI) fun r1 _ => ?_
          refine of_need fun hl1 => ?_
          refine wo_val (.str (s1 ++ r1)) rfl (pv_bin rfl rfl (bin_cat hl1)) ?_
          refine wo_val (.str (s1 ++ r1)) rfl pv_assign ?_
          refine wo_nil ?_
          refine wr_inBlock ?_
          refine wr_region ?_
          refine wo_val (.int .i64 (j : Int)) rfl pv_move ?_
          refine wo_val (.int .i64 (IntKind.wrap .i64 ((j : Int) + 1))) rfl (pv_bin rfl rfl rfl) ?_
          refine wo_val (.int .i64 (IntKind.wrap .i64 ((j : Int) + 1))) rfl pv_assign ?_
          refine wo_nil ?_
          refine wr_is [(0, (.sl 4 (List.map rToken l))), (4, (.str (s1 ++ r1))), (5, (.int .i64 ((j + 1 : Nat) : Int)))] (.cons rfl (.cons rfl (.cons (inc_ok (lt_of_get ha) hlim) .nil))) ?_
          refine wb_each ?_
          refine hW (s1 ++ r1) _ _ ?_
          exact ⟨rfl, rfl⟩
        · refine wr_region ?_
          refine wo_val (.str s1) rfl pv_move ?_
          refine wo_val (.sl 4 (List.map rToken l)) rfl pv_move ?_
          refine wo_val (.int .i64 (j : Int)) rfl pv_move ?_
          refine wo_val (.cp (rToken a) 0) rfl (pv_ixa (ixa_nat ti23 ti35 rfl ha)) ?_
          refine wo_val (.cp (rToken a) 1) rfl (pv_fa (fa_cp (c := 0) (off := 1) (i := 1) ti35 rfl ti9 rfl)) ?_
          refine wo_val (.str a.Text) rfl (pv_load (ld_cp ti9 rfl)) ?_
          refine of_need fun hl2 => ?_
          refine wo_val (.str (s1 ++ a.Text)) rfl (pv_bin rfl rfl (bin_cat hl2)) ?_
          refine wo_val (.str (s1 ++ a.Text)) rfl pv_assign ?_
          refine wo_nil ?_
          refine wr_inBlock ?_
          refine wr_region ?_
          refine wo_val (.int .i64 (j : Int)) rfl pv_move ?_
          refine wo_val (.int .i64 (IntKind.wrap .i64 ((j : Int) + 1))) rfl (pv_bin rfl rfl rfl) ?_
          refine wo_val (.int .i64 (IntKind.wrap .i64 ((j : Int) + 1))) rfl pv_assign ?_
          refine wo_nil ?_
          refine wr_is [(0, (.sl 4 (List.map rToken l))), (4, (.str (s1 ++ a.Text))), (5, (.int .i64 ((j + 1 : Nat) : Int)))] (.cons rfl (.cons rfl (.cons (inc_ok (lt_of_get ha) hlim) .nil))) ?_
          refine wb_each ?_
          refine hW (s1 ++ a.Text) _ _ ?_
          exact ⟨rfl, rfl⟩
      · refine wf_ite rfl (fun hc1 => ?_) (fun hc1 => ?_)
        · refine wr_region ?_
          refine wo_val (.str s) rfl pv_move ?_
          refine of_need fun hl => ?_
          refine wo_val (.str (s ++ [32])) rfl (pv_bin rfl rfl (bin_cat hl)) ?_
          refine wo_val (.str (s ++ [32])) rfl pv_assign ?_
          refine wo_nil ?_
          refine wr_is [(0, (.sl 4 (List.map rToken l))), (4, (.str (s ++ [32]))), (5, (.int .i64 (j : Int)))] (.cons rfl (.cons rfl (.cons rfl .nil))) ?_
          refine hJ (s ++ [32]) _ _ ?_
          exact ⟨rfl, rfl⟩
        · refine wr_skip ?_
          refine wr_is [(0, (.sl 4 (List.map rToken l))), (4, (.str s)), (5, (.int .i64 (j : Int)))] (.cons rfl (.cons rfl (.cons rfl .nil))) ?_
          refine hJ s _ _ ?_
          exact ⟨rfl, rfl⟩
    · refine wr_seq ?_
      refine wr_region ?_
      refine wo_val (.str []) rfl pv_assign ?_
      refine wo_val (.int .i64 70) rfl pv_assign ?_
      refine wo_nil ?_
      refine wx_each ?_
      refine w_altr ?_
      exact wr_ret (a := ([], 70)) (vs := [(.str []), (.int .i64 70)]) Tryd.func17 hI rfl (.tupL (.cons (.same _) (.cons (.same _) .nil)))
  · rintro s fr h ⟨rfl, rfl⟩
    refine wr_mod (alt_inl _ _ _) ?_
    refine wr_seq ?_
    refine wr_seq ?_
    refine wr_region ?_
    refine wo_val (.int .i64 (l.length : Int)) rfl pv_move ?_
    refine wo_val (.sl 4 (List.map rToken l)) rfl pv_move ?_
    refine wo_val (.int .i64 (l.length : Int)) rfl (pv_len (len_sl ti23)) ?_
    refine wo_val (.bool (decide ((l.length : Int) < (l.length : Int)))) rfl (pv_bin rfl rfl rfl) ?_
    refine wo_nil ?_
    refine wr_condF rfl (Int.lt_irrefl _) ?_
    refine wr_exit rfl ?_
    refine wr_seq ?_
    refine wr_region ?_
    refine wo_val (.str s) rfl pv_move ?_
    refine wo_val (.str s) rfl pv_assign ?_
    refine wo_val (.int .i64 0) rfl pv_assign ?_
    refine wo_nil ?_
    exact wr_ret (a := (s, 0)) (vs := [(.str s), (.int .i64 0)]) Tryd.func17 hI rfl (.tupL (.cons (.same _) (.cons (.same _) .nil)))

theorem cp_law07_LexTextSpec (a : (List Token)) (b : (List Token)) (s : Str) : CP Tryd.prog 4 [(.sl 4 (List.map rToken a)), (.sl 4 (List.map rToken b)), (.str s)] (law07_LexTextSpec a b s) (fun (x : Bool) => (AV.bool x)) := by
  refine cp_intro (n := 65) 0 Tryd.func4 rfl (by decide) rfl rfl fun h0 ids hI => ?_
  refine wr_in (wr_mod (law07_LexTextSpec.eq_1 _ _ _) ?_)
  refine wr_seq ?_
  refine wr_region ?_
  refine wo_val (.bool false) rfl pv_assign ?_
  refine wo_nil ?_
  refine wr_seq ?_
  refine wr_seq ?_
  refine wr_region ?_
  refine of_call [] rfl rfl rfl rfl ((cp_law07_sane) _) (fun v _ => wu_pan Tryd.func4 hI) fun r _ => ?_
  refine wo_val (.bool (!r)) rfl (pv_un rfl) ?_
  refine wo_nil ?_
  refine wf_itebn rfl (fun hc => ?_) (fun hc => ?_)
  · refine wr_skip ?_
    refine wr_seq ?_
    refine wr_seq ?_
    refine wr_region ?_
    refine wo_val (.sl 4 (List.map rToken a)) rfl pv_move ?_
    refine of_call [(.sl 4 (List.map rToken a))] rfl rfl rfl rfl ((cp_ref07_Few a) _) (fun v _ => wu_pan Tryd.func4 hI) fun r1 _ => ?_
    refine wo_val (.bool (!r1)) rfl (pv_un rfl) ?_
    refine wo_val (.bool (!r1)) rfl pv_move ?_
    refine wo_join 4 ((fun (b1 : Bool) => if (b1 || (decide ((s.length : Int) > 1000))) then
(.ok true)
else
((lex_Text a).bind fun r3 =>
  (ref07_Text a).bind fun r4 =>
  (if ((r3.1 == r4.1) && (r3.2 == r4.2)) then (lex_Same a b).bind fun r5 =>
  (ref07_Same a b).bind fun r6 =>
  R.ok (r5 == r6) else R.ok false).bind (fun (b2 : Bool) => (if b2 then (lex_Same a a).bind fun r7 =>
  R.ok r7 else R.ok false).bind (fun (b3 : Bool) => (if b3 then (lex_Name s).bind fun r8 =>
  (ref07_Name s).bind fun r9 =>
  R.ok (r8 == r9) else R.ok false).bind (fun (b4 : Bool) => .ok b4))))) : Bool → R Bool) (fun (b1 : Bool) (fr : Nat → AV) (h : AHeap) => fr = frA [(0, (.sl 4 (List.map rToken a))), (1, (.sl 4 (List.map rToken b))), (2, (.str s)), (20, (.bool b1))] ∧ h = hp h0 ids []) ?_ fun hJ => of_if1 (fun hb1 => ?_) (fun hb1 => ?_)
    · rintro b1 fr h ⟨rfl, rfl⟩
      refine wo_val (.bool b1) rfl pv_move ?_
      refine wo_meet 4 [(0, (.sl 4 (List.map rToken a))), (1, (.sl 4 (List.map rToken b))), (2, (.str s)), (25, (.bool (b1 || (decide ((s.length : Int) > 1000)))))] ?_ fun hJ1 => wo_cases b1 (fun hb3 => ?_) (fun hb3 => ?_)
      · refine wo_nil ?_
        refine wf_iteb rfl (fun hc1 => ?_) (fun hc1 => ?_)
        · refine wr_seq ?_
          refine wr_region ?_
          refine wo_val (.bool true) rfl pv_assign ?_
          refine wo_nil ?_
          exact wr_ret (a := true) (vs := [(.bool true)]) Tryd.func4 hI rfl (.same _)
        · refine wr_skip ?_
          refine wr_seq ?_
          refine wr_region ?_
          refine wo_val (.sl 4 (List.map rToken a)) rfl pv_move ?_
          refine of_call [(.sl 4 (List.map rToken a))] rfl rfl rfl rfl ((cp_lex_Text a) _) (fun v _ => wu_pan Tryd.func4 hI) fun r3 _ => ?_
          refine wo_val (.tup [(.str r3.1), (.int .i64 r3.2)]) rfl pv_move ?_
          refine wo_val (.str r3.1) rfl (pv_ext rfl) ?_
          refine wo_val (.int .i64 r3.2) rfl (pv_ext rfl) ?_
          refine wo_val (.str r3.1) rfl pv_assign ?_
          refine wo_val (.int .i64 r3.2) rfl pv_assign ?_
          refine wo_nil ?_
          refine wr_seq ?_
          refine wr_region ?_
          refine wo_val (.sl 4 (List.map rToken a)) rfl pv_move ?_
          refine of_call [(.sl 4 (List.map rToken a))] rfl rfl rfl rfl ((cp_ref07_Text a) _) (fun v _ => wu_pan Tryd.func4 hI) fun r4 _ => ?_
          refine wo_val (.tup [(.str r4.1), (.int .i64 r4.2)]) rfl pv_move ?_
          refine wo_val (.str r4.1) rfl (pv_ext rfl) ?_
          refine wo_val (.int .i64 r4.2) rfl (pv_ext rfl) ?_
          refine wo_val (.str r4.1) rfl pv_assign ?_
          refine wo_val (.int .i64 r4.2) rfl pv_assign ?_
          refine wo_nil ?_
          refine wr_seq ?_
          refine wr_region ?_
          refine wo_val (.str r3.1) rfl pv_move ?_
          refine wo_val (.str r4.1) rfl pv_move ?_
          refine wo_val (.bool (r3.1 == r4.1)) rfl (pv_bin rfl rfl rfl) ?_
          refine wo_val (.bool (r3.1 == r4.1)) rfl pv_move ?_
          refine wo_meet 4 [(0, (.sl 4 (List.map rToken a))), (1, (.sl 4 (List.map rToken b))), (2, (.str s)), (43, (.bool ((r3.1 == r4.1) && (r3.2 == r4.2))))] ?_ fun hJ2 => wo_cases (r3.1 == r4.1) (fun hb5 => ?_) (fun hb5 => ?_)
          · refine wo_val (.bool ((r3.1 == r4.1) && (r3.2 == r4.2))) rfl pv_move ?_
            refine wo_join 8 ((fun (b2 : Bool) => (if b2 then (lex_Same a a).bind fun r7 =>
  R.ok r7 else R.ok false).bind (fun (b3 : Bool) => (if b3 then (lex_Name s).bind fun r8 =>
  (ref07_Name s).bind fun r9 =>
  R.ok (r8 == r9) else R.ok false).bind (fun (b4 : Bool) => .ok b4))) : Bool → R Bool) (fun (b2 : Bool) (fr : Nat → AV) (h : AHeap) => fr = frA [(0, (.sl 4 (List.map rToken a))), (2, (.str s)), (52, (.bool b2))] ∧ h = hp h0 ids []) ?_ fun hJ3 => of_if1 (fun hb7 => ?_) (fun hb7 => ?_)
            · rintro b2 fr h ⟨rfl, rfl⟩
              refine wo_val (.bool b2) rfl pv_move ?_
              refine wo_join 4 ((fun (b3 : Bool) => (if b3 then (lex_Name s).bind fun r8 =>
  (ref07_Name s).bind fun r9 =>
  R.ok (r8 == r9) else R.ok false).bind (fun (b4 : Bool) => .ok b4)) : Bool → R Bool) (fun (b3 : Bool) (fr : Nat → AV) (h : AHeap) => fr = frA [(2, (.str s)), (57, (.bool b3))] ∧ h = hp h0 ids []) ?_ fun hJ4 => of_if1 (fun hb9 => ?_) (fun hb9 => ?_)
              · rintro b3 fr h ⟨rfl, rfl⟩
                refine wo_val (.bool b3) rfl pv_move ?_
                refine wo_join 6 ((fun (b4 : Bool) => .ok b4) : Bool → R Bool) (fun (b4 : Bool) (fr : Nat → AV) (h : AHeap) => fr = frA [(64, (.bool b4))] ∧ h = hp h0 ids []) ?_ fun hJ5 => of_if1 (fun hb11 => ?_) (fun hb11 => ?_)
                · rintro b4 fr h ⟨rfl, rfl⟩
                  refine wo_val (.bool b4) rfl pv_assign ?_
                  refine wo_nil ?_
                  exact wr_ret (a := b4) (vs := [(.bool b4)]) Tryd.func4 hI rfl (.same _)
                · refine wo_valg (tj := 58) (.str s) rfl (congrArg AV.bool hb11) rfl pv_move ?_
                  refine of_call [(.str s)] rfl (wanted_yes (tj := 58) rfl (congrArg AV.bool hb11)) rfl rfl ((cp_lex_Name s) _) (fun v _ => wu_pan Tryd.func4 hI) fun r8 _ => ?_
                  refine wo_valg (tj := 58) (.str s) rfl (congrArg AV.bool hb11) rfl pv_move ?_
                  refine of_call [(.str s)] rfl (wanted_yes (tj := 58) rfl (congrArg AV.bool hb11)) rfl rfl ((cp_ref07_Name s) _) (fun v _ => wu_pan Tryd.func4 hI) fun r9 _ => ?_
                  refine wo_valg (tj := 58) (.bool (r8 == r9)) rfl (congrArg AV.bool hb11) rfl (pv_bin rfl rfl (bin_beq ti4)) ?_
                  refine wo_val (.bool (r8 == r9)) rfl (pv_pick (t := true) (congrArg AV.bool hb11) rfl) ?_
                  refine wo_back1 ?_
                  refine wo_is [(64, (.bool (r8 == r9)))] (.cons rfl .nil) ?_
                  exact hJ5 (r8 == r9) _ _ ⟨rfl, rfl⟩
                · refine wo_not (tj := 58) (b := false) rfl (congrArg AV.bool hb11) rfl rfl ?_
                  refine wo_not (tj := 58) (b := false) rfl (congrArg AV.bool hb11) rfl rfl ?_
                  refine wo_not (tj := 58) (b := false) rfl (congrArg AV.bool hb11) rfl rfl ?_
                  refine wo_not (tj := 58) (b := false) rfl (congrArg AV.bool hb11) rfl rfl ?_
                  refine wo_not (tj := 58) (b := false) rfl (congrArg AV.bool hb11) rfl rfl ?_
                  refine wo_val (.bool false) rfl (pv_pick (t := false) (congrArg AV.bool hb11) rfl) ?_
                  refine wo_back1 ?_
                  refine wo_is [(64, (.bool false))] (.cons rfl .nil) ?_
                  exact hJ5 false _ _ ⟨rfl, rfl⟩
              · refine wo_valg (tj := 53) (.sl 4 (List.map rToken a)) rfl (congrArg AV.bool hb9) rfl pv_move ?_
                refine wo_valg (tj := 53) (.sl 4 (List.map rToken a)) rfl (congrArg AV.bool hb9) rfl pv_move ?_
                refine of_call [(.sl 4 (List.map rToken a)), (.sl 4 (List.map rToken a))] rfl (wanted_yes (tj := 53) rfl (congrArg AV.bool hb9)) rfl rfl ((cp_lex_Same a a) _) (fun v _ => wu_pan Tryd.func4 hI) fun r7 _ => ?_
                refine wo_val (.bool r7) rfl (pv_pick (t := true) (congrArg AV.bool hb9) rfl) ?_
                refine wo_back1 ?_
                refine wo_is [(2, (.str s)), (57, (.bool r7))] (.cons rfl (.cons rfl .nil)) ?_
                exact hJ4 r7 _ _ ⟨rfl, rfl⟩
              · refine wo_not (tj := 53) (b := false) rfl (congrArg AV.bool hb9) rfl rfl ?_
                refine wo_not (tj := 53) (b := false) rfl (congrArg AV.bool hb9) rfl rfl ?_
                refine wo_not (tj := 53) (b := false) rfl (congrArg AV.bool hb9) rfl rfl ?_
                refine wo_val (.bool false) rfl (pv_pick (t := false) (congrArg AV.bool hb9) rfl) ?_
                refine wo_back1 ?_
                refine wo_is [(2, (.str s)), (57, (.bool false))] (.cons rfl (.cons rfl .nil)) ?_
                exact hJ4 false _ _ ⟨rfl, rfl⟩
            · refine wo_valg (tj := 44) (.sl 4 (List.map rToken a)) rfl (congrArg AV.bool hb7) rfl pv_move ?_
              refine wo_valg (tj := 44) (.sl 4 (List.map rToken b)) rfl (congrArg AV.bool hb7) rfl pv_move ?_
              refine of_call [(.sl 4 (List.map rToken a)), (.sl 4 (List.map rToken b))] rfl (wanted_yes (tj := 44) rfl (congrArg AV.bool hb7)) rfl rfl ((cp_lex_Same a b) _) (fun v _ => wu_pan Tryd.func4 hI) fun r5 _ => ?_
              refine wo_valg (tj := 44) (.sl 4 (List.map rToken a)) rfl (congrArg AV.bool hb7) rfl pv_move ?_
              refine wo_valg (tj := 44) (.sl 4 (List.map rToken b)) rfl (congrArg AV.bool hb7) rfl pv_move ?_
              refine of_call [(.sl 4 (List.map rToken a)), (.sl 4 (List.map rToken b))] rfl (wanted_yes (tj := 44) rfl (congrArg AV.bool hb7)) rfl rfl ((cp_ref07_Same a b) _) (fun v _ => wu_pan Tryd.func4 hI) fun r6 _ => ?_
              refine wo_valg (tj := 44) (.bool (r5 == r6)) rfl (congrArg AV.bool hb7) rfl (pv_bin rfl rfl (bin_beq ti4)) ?_
              refine wo_val (.bool (r5 == r6)) rfl (pv_pick (t := true) (congrArg AV.bool hb7) rfl) ?_
              refine wo_back1 ?_
              refine wo_is [(0, (.sl 4 (List.map rToken a))), (2, (.str s)), (52, (.bool (r5 == r6)))] (.cons rfl (.cons rfl (.cons rfl .nil))) ?_
              exact hJ3 (r5 == r6) _ _ ⟨rfl, rfl⟩
            · refine wo_not (tj := 44) (b := false) rfl (congrArg AV.bool hb7) rfl rfl ?_
              refine wo_not (tj := 44) (b := false) rfl (congrArg AV.bool hb7) rfl rfl ?_
              refine wo_not (tj := 44) (b := false) rfl (congrArg AV.bool hb7) rfl rfl ?_
              refine wo_not (tj := 44) (b := false) rfl (congrArg AV.bool hb7) rfl rfl ?_
              refine wo_not (tj := 44) (b := false) rfl (congrArg AV.bool hb7) rfl rfl ?_
              refine wo_not (tj := 44) (b := false) rfl (congrArg AV.bool hb7) rfl rfl ?_
              refine wo_not (tj := 44) (b := false) rfl (congrArg AV.bool hb7) rfl rfl ?_
              refine wo_val (.bool false) rfl (pv_pick (t := false) (congrArg AV.bool hb7) rfl) ?_
              refine wo_back1 ?_
              refine wo_is [(0, (.sl 4 (List.map rToken a))), (2, (.str s)), (52, (.bool false))] (.cons rfl (.cons rfl (.cons rfl .nil))) ?_
              exact hJ3 false _ _ ⟨rfl, rfl⟩
          · refine wo_valg (tj := 39) (.int .i64 r3.2) rfl (congrArg AV.bool hb5) rfl pv_move ?_
            refine wo_valg (tj := 39) (.int .i64 r4.2) rfl (congrArg AV.bool hb5) rfl pv_move ?_
            refine wo_valg (tj := 39) (.bool (r3.2 == r4.2)) rfl (congrArg AV.bool hb5) rfl (pv_bin rfl rfl rfl) ?_
            refine wo_val (.bool (r3.2 == r4.2)) rfl (pv_pick (t := true) (congrArg AV.bool hb5) rfl) ?_
            exact wo_is [(0, (.sl 4 (List.map rToken a))), (1, (.sl 4 (List.map rToken b))), (2, (.str s)), (43, (.bool ((r3.1 == r4.1) && (r3.2 == r4.2))))] (.cons rfl (.cons rfl (.cons rfl (.cons (and_t hb5) .nil)))) hJ2
          · refine wo_not (tj := 39) (b := false) rfl (congrArg AV.bool hb5) rfl rfl ?_
            refine wo_not (tj := 39) (b := false) rfl (congrArg AV.bool hb5) rfl rfl ?_
            refine wo_not (tj := 39) (b := false) rfl (congrArg AV.bool hb5) rfl rfl ?_
            refine wo_val (.bool false) rfl (pv_pick (t := false) (congrArg AV.bool hb5) rfl) ?_
            exact wo_is [(0, (.sl 4 (List.map rToken a))), (1, (.sl 4 (List.map rToken b))), (2, (.str s)), (43, (.bool ((r3.1 == r4.1) && (r3.2 == r4.2))))] (.cons rfl (.cons rfl (.cons rfl (.cons (and_f hb5) .nil)))) hJ2
      · refine wo_not (tj := 21) (b := true) rfl (congrArg AV.bool hb3) rfl rfl ?_
        refine wo_not (tj := 21) (b := true) rfl (congrArg AV.bool hb3) rfl rfl ?_
        refine wo_not (tj := 21) (b := true) rfl (congrArg AV.bool hb3) rfl rfl ?_
        refine wo_val (.bool true) rfl (pv_pick (t := true) (congrArg AV.bool hb3) rfl) ?_
        exact wo_is [(0, (.sl 4 (List.map rToken a))), (1, (.sl 4 (List.map rToken b))), (2, (.str s)), (25, (.bool (b1 || (decide ((s.length : Int) > 1000)))))] (.cons rfl (.cons rfl (.cons rfl (.cons (or_t hb3) .nil)))) hJ1
      · refine wo_valg (tj := 21) (.str s) rfl (congrArg AV.bool hb3) rfl pv_move ?_
        refine wo_valg (tj := 21) (.int .i64 (s.length : Int)) rfl (congrArg AV.bool hb3) rfl (pv_len (len_str ti9)) ?_
        refine wo_valg (tj := 21) (.bool (decide ((s.length : Int) > 1000))) rfl (congrArg AV.bool hb3) rfl (pv_bin rfl rfl rfl) ?_
        refine wo_val (.bool (decide ((s.length : Int) > 1000))) rfl (pv_pick (t := false) (congrArg AV.bool hb3) rfl) ?_
        exact wo_is [(0, (.sl 4 (List.map rToken a))), (1, (.sl 4 (List.map rToken b))), (2, (.str s)), (25, (.bool (b1 || (decide ((s.length : Int) > 1000)))))] (.cons rfl (.cons rfl (.cons rfl (.cons (or_f hb3) .nil)))) hJ1
    · refine wo_not (tj := 16) (b := true) rfl (congrArg AV.bool hb1) rfl rfl ?_
      refine wo_not (tj := 16) (b := true) rfl (congrArg AV.bool hb1) rfl rfl ?_
      refine wo_not (tj := 16) (b := true) rfl (congrArg AV.bool hb1) rfl rfl ?_
      refine wo_val (.bool true) rfl (pv_pick (t := true) (congrArg AV.bool hb1) rfl) ?_
      refine wo_back1 ?_
      refine wo_is [(0, (.sl 4 (List.map rToken a))), (1, (.sl 4 (List.map rToken b))), (2, (.str s)), (20, (.bool true))] (.cons rfl (.cons rfl (.cons rfl (.cons rfl .nil)))) ?_
      exact hJ true _ _ ⟨rfl, rfl⟩
    · refine wo_valg (tj := 16) (.sl 4 (List.map rToken b)) rfl (congrArg AV.bool hb1) rfl pv_move ?_
      refine of_call [(.sl 4 (List.map rToken b))] rfl (wanted_yes (tj := 16) rfl (congrArg AV.bool hb1)) rfl rfl ((cp_ref07_Few b) _) (fun v _ => wu_pan Tryd.func4 hI) fun r2 _ => ?_
      refine wo_valg (tj := 16) (.bool (!r2)) rfl (congrArg AV.bool hb1) rfl (pv_un rfl) ?_
      refine wo_val (.bool (!r2)) rfl (pv_pick (t := false) (congrArg AV.bool hb1) rfl) ?_
      refine wo_back1 ?_
      refine wo_is [(0, (.sl 4 (List.map rToken a))), (1, (.sl 4 (List.map rToken b))), (2, (.str s)), (20, (.bool (!r2)))] (.cons rfl (.cons rfl (.cons rfl (.cons rfl .nil)))) ?_
      exact hJ (!r2) _ _ ⟨rfl, rfl⟩
  · refine wr_seq ?_
    refine wr_region ?_
    refine wo_val (.bool false) rfl pv_assign ?_
    refine wo_nil ?_
    exact wr_ret (a := false) (vs := [(.bool false)]) Tryd.func4 hI rfl (.same _)

theorem cp_law07_LexBack (l : (List Token)) (src : Str) : CP Tryd.prog 5 [(.sl 4 (List.map rToken l)), (.str src)] (law07_LexBack l src) (fun (x : Bool) => (AV.bool x)) := by
  refine cp_intro (n := 86) 0 Tryd.func5 rfl (by decide) rfl rfl fun h0 ids hI => ?_
  refine wr_in (wr_mod (law07_LexBack.eq_1 _ _) ?_)
  refine wr_seq ?_
  refine wr_region ?_
  refine wo_val (.bool false) rfl pv_assign ?_
  refine wo_nil ?_
  refine wr_seq ?_
  refine wr_seq ?_
  refine wr_region ?_
  refine of_call [] rfl rfl rfl rfl ((cp_law07_sane) _) (fun v _ => wu_pan Tryd.func5 hI) fun r _ => ?_
  refine wo_val (.bool (!r)) rfl (pv_un rfl) ?_
  refine wo_nil ?_
  refine wf_itebn rfl (fun hc => ?_) (fun hc => ?_)
  · refine wr_skip ?_
    refine wr_seq ?_
    refine wr_seq ?_
    refine wr_region ?_
    refine wo_val (.sl 4 (List.map rToken l)) rfl pv_move ?_
    refine of_call [(.sl 4 (List.map rToken l))] rfl rfl rfl rfl ((cp_ref07_Few l) _) (fun v _ => wu_pan Tryd.func5 hI) fun r1 _ => ?_
    refine wo_val (.bool (!r1)) rfl (pv_un rfl) ?_
    refine wo_val (.bool (!r1)) rfl pv_move ?_
    refine wo_meet 4 [(0, (.sl 4 (List.map rToken l))), (1, (.str src)), (27, (.bool ((!r1) || (decide ((src.length : Int) > 3000)))))] ?_ fun hJ => wo_cases (!r1) (fun hb1 => ?_) (fun hb1 => ?_)
    · refine wo_nil ?_
      refine wf_iteb rfl (fun hc1 => ?_) (fun hc1 => ?_)
      · refine wr_seq ?_
        refine wr_region ?_
        refine wo_val (.bool true) rfl pv_assign ?_
        refine wo_nil ?_
        exact wr_ret (a := true) (vs := [(.bool true)]) Tryd.func5 hI rfl (.same _)
      · refine wr_skip ?_
        refine wr_seq ?_
        refine wr_region ?_
        refine wo_val (.sl 4 (List.map rToken l)) rfl pv_move ?_
        refine of_call [(.sl 4 (List.map rToken l))] rfl rfl rfl rfl ((cp_lex_Text l) _) (fun v _ => wu_pan Tryd.func5 hI) fun r2 _ => ?_
        refine wo_val (.tup [(.str r2.1), (.int .i64 r2.2)]) rfl pv_move ?_
        refine wo_val (.str r2.1) rfl (pv_ext rfl) ?_
        refine wo_val (.int .i64 r2.2) rfl (pv_ext rfl) ?_
        refine wo_val (.str r2.1) rfl pv_assign ?_
        refine wo_val (.int .i64 r2.2) rfl pv_assign ?_
        refine wo_nil ?_
        refine wr_seq ?_
        refine wr_seq ?_
        refine wr_region ?_
        refine wo_val (.int .i64 r2.2) rfl pv_move ?_
        refine wo_val (.bool (r2.2 == 0)) rfl (pv_bin rfl rfl rfl) ?_
        refine wo_nil ?_
        refine wf_join (π := Unit) (fun _ => law07_LexBack_j1 src) (fun _ => fun (fr : Nat → AV) (h : AHeap) => fr = frA [(1, (.str src))] ∧ h = hp h0 ids []) ?_ fun hJ5 => ?_
        · rintro _ fr h ⟨rfl, rfl⟩
          refine wr_mod (law07_LexBack_j1.eq_1 _) ?_
          refine wr_seq ?_
          refine wr_region ?_
          refine wo_val (.str src) rfl pv_move ?_
          refine of_call [(.str src)] rfl rfl rfl rfl ((cp_lex_Lex src) _) (fun v _ => wu_pan Tryd.func5 hI) fun r5 _ => ?_
          refine wo_val (.tup [(.sl 4 (List.map rToken r5.1)), (.int .i64 r5.2.1), (.int .i64 r5.2.2)]) rfl pv_move ?_
          refine wo_val (.sl 4 (List.map rToken r5.1)) rfl (pv_ext rfl) ?_
          refine wo_val (.int .i64 r5.2.1) rfl (pv_ext rfl) ?_
          refine wo_val (.int .i64 r5.2.2) rfl (pv_ext rfl) ?_
          refine wo_val (.sl 4 (List.map rToken r5.1)) rfl pv_assign ?_
          refine wo_val (.int .i64 r5.2.1) rfl pv_assign ?_
          refine wo_val (.int .i64 r5.2.2) rfl pv_assign ?_
          refine wo_nil ?_
          refine wr_seq ?_
          refine wr_seq ?_
          refine wr_region ?_
          refine wo_val (.int .i64 r5.2.2) rfl pv_move ?_
          refine wo_val (.bool (r5.2.2 != 0)) rfl (pv_bin rfl rfl rfl) ?_
          refine wo_nil ?_
          refine wf_iteb rfl (fun hc4 => ?_) (fun hc4 => ?_)
          · refine wr_seq ?_
            refine wr_region ?_
            refine wo_val (.sl 4 (List.map rToken r5.1)) rfl pv_move ?_
            refine wo_val (.int .i64 (r5.1.length : Int)) rfl (pv_len (len_sl ti23)) ?_
            refine wo_val (.bool ((r5.1.length : Int) == 0)) rfl (pv_bin rfl rfl rfl) ?_
            refine wo_val (.bool ((r5.1.length : Int) == 0)) rfl pv_assign ?_
            refine wo_nil ?_
            exact wr_ret (a := ((r5.1.length : Int) == 0)) (vs := [(.bool ((r5.1.length : Int) == 0))]) Tryd.func5 hI rfl (.same _)
          · refine wr_skip ?_
            refine wr_seq ?_
            refine wr_region ?_
            refine wo_val (.sl 4 (List.map rToken r5.1)) rfl pv_move ?_
            refine of_call [(.sl 4 (List.map rToken r5.1))] rfl rfl rfl rfl ((cp_lex_Text r5.1) _) (fun v _ => wu_pan Tryd.func5 hI) fun r6 _ => ?_
            refine wo_val (.tup [(.str r6.1), (.int .i64 r6.2)]) rfl pv_move ?_
            refine wo_val (.str r6.1) rfl (pv_ext rfl) ?_
            refine wo_val (.int .i64 r6.2) rfl (pv_ext rfl) ?_
            refine wo_val (.str r6.1) rfl pv_assign ?_
            refine wo_val (.int .i64 r6.2) rfl pv_assign ?_
            refine wo_nil ?_
            refine wr_seq ?_
            refine wr_region ?_
            refine wo_val (.str r6.1) rfl pv_move ?_
            refine of_call [(.str r6.1)] rfl rfl rfl rfl ((cp_lex_Lex r6.1) _) (fun v _ => wu_pan Tryd.func5 hI) fun r7 _ => ?_
            refine wo_val (.tup [(.sl 4 (List.map rToken r7.1)), (.int .i64 r7.2.1), (.int .i64 r7.2.2)]) rfl pv_move ?_
            refine wo_val (.sl 4 (List.map rToken r7.1)) rfl (pv_ext rfl) ?_
            refine wo_val (.int .i64 r7.2.1) rfl (pv_ext rfl) ?_
            refine wo_val (.int .i64 r7.2.2) rfl (pv_ext rfl) ?_
            refine wo_val (.sl 4 (List.map rToken r7.1)) rfl pv_assign ?_
            refine wo_val (.int .i64 r7.2.1) rfl pv_assign ?_
            refine wo_val (.int .i64 r7.2.2) rfl pv_assign ?_
            refine wo_nil ?_
            refine wr_seq ?_
            refine wr_region ?_
            refine wo_val (.int .i64 r6.2) rfl pv_move ?_
            refine wo_val (.bool (r6.2 == 0)) rfl (pv_bin rfl rfl rfl) ?_
            refine wo_val (.bool (r6.2 == 0)) rfl pv_move ?_
            refine wo_meet 3 [(10, (.sl 4 (List.map rToken r5.1))), (15, (.sl 4 (List.map rToken r7.1))), (80, (.bool ((r6.2 == 0) && (r7.2.2 == 0))))] ?_ fun hJ3 => wo_cases (r6.2 == 0) (fun hb7 => ?_) (fun hb7 => ?_)
            · refine wo_val (.bool ((r6.2 == 0) && (r7.2.2 == 0))) rfl pv_move ?_
              refine wo_join 4 ((fun (b1 : Bool) => .ok b1) : Bool → R Bool) (fun (b1 : Bool) (fr : Nat → AV) (h : AHeap) => fr = frA [(85, (.bool b1))] ∧ h = hp h0 ids []) ?_ fun hJ4 => of_if1 (fun hb9 => ?_) (fun hb9 => ?_)
              · rintro b1 fr h ⟨rfl, rfl⟩
                refine wo_val (.bool b1) rfl pv_assign ?_
                refine wo_nil ?_
                exact wr_ret (a := b1) (vs := [(.bool b1)]) Tryd.func5 hI rfl (.same _)
              · refine wo_valg (tj := 81) (.sl 4 (List.map rToken r5.1)) rfl (congrArg AV.bool hb9) rfl pv_move ?_
                refine wo_valg (tj := 81) (.sl 4 (List.map rToken r7.1)) rfl (congrArg AV.bool hb9) rfl pv_move ?_
                refine of_call [(.sl 4 (List.map rToken r5.1)), (.sl 4 (List.map rToken r7.1))] rfl (wanted_yes (tj := 81) rfl (congrArg AV.bool hb9)) rfl rfl ((cp_lex_Same r5.1 r7.1) _) (fun v _ => wu_pan Tryd.func5 hI) fun r8 _ => ?_
                refine wo_val (.bool r8) rfl (pv_pick (t := true) (congrArg AV.bool hb9) rfl) ?_
                refine wo_back1 ?_
                refine wo_is [(85, (.bool r8))] (.cons rfl .nil) ?_
                exact hJ4 r8 _ _ ⟨rfl, rfl⟩
              · refine wo_not (tj := 81) (b := false) rfl (congrArg AV.bool hb9) rfl rfl ?_
                refine wo_not (tj := 81) (b := false) rfl (congrArg AV.bool hb9) rfl rfl ?_
                refine wo_not (tj := 81) (b := false) rfl (congrArg AV.bool hb9) rfl rfl ?_
                refine wo_val (.bool false) rfl (pv_pick (t := false) (congrArg AV.bool hb9) rfl) ?_
                refine wo_back1 ?_
                refine wo_is [(85, (.bool false))] (.cons rfl .nil) ?_
                exact hJ4 false _ _ ⟨rfl, rfl⟩
            · refine wo_valg (tj := 77) (.int .i64 r7.2.2) rfl (congrArg AV.bool hb7) rfl pv_move ?_
              refine wo_valg (tj := 77) (.bool (r7.2.2 == 0)) rfl (congrArg AV.bool hb7) rfl (pv_bin rfl rfl rfl) ?_
              refine wo_val (.bool (r7.2.2 == 0)) rfl (pv_pick (t := true) (congrArg AV.bool hb7) rfl) ?_
              exact wo_is [(10, (.sl 4 (List.map rToken r5.1))), (15, (.sl 4 (List.map rToken r7.1))), (80, (.bool ((r6.2 == 0) && (r7.2.2 == 0))))] (.cons rfl (.cons rfl (.cons (and_t hb7) .nil))) hJ3
            · refine wo_not (tj := 77) (b := false) rfl (congrArg AV.bool hb7) rfl rfl ?_
              refine wo_not (tj := 77) (b := false) rfl (congrArg AV.bool hb7) rfl rfl ?_
              refine wo_val (.bool false) rfl (pv_pick (t := false) (congrArg AV.bool hb7) rfl) ?_
              exact wo_is [(10, (.sl 4 (List.map rToken r5.1))), (15, (.sl 4 (List.map rToken r7.1))), (80, (.bool ((r6.2 == 0) && (r7.2.2 == 0))))] (.cons rfl (.cons rfl (.cons (and_f hb7) .nil))) hJ3
        · refine wf_iteb rfl (fun hc2 => ?_) (fun hc2 => ?_)
          · refine wr_seq ?_
            refine wr_region ?_
            refine wo_val (.str r2.1) rfl pv_move ?_
            refine of_call [(.str r2.1)] rfl rfl rfl rfl ((cp_lex_Lex r2.1) _) (fun v _ => wu_pan Tryd.func5 hI) fun r3 _ => ?_
            refine wo_val (.tup [(.sl 4 (List.map rToken r3.1)), (.int .i64 r3.2.1), (.int .i64 r3.2.2)]) rfl pv_move ?_
            refine wo_val (.sl 4 (List.map rToken r3.1)) rfl (pv_ext rfl) ?_
            refine wo_val (.int .i64 r3.2.1) rfl (pv_ext rfl) ?_
            refine wo_val (.int .i64 r3.2.2) rfl (pv_ext rfl) ?_
            refine wo_val (.sl 4 (List.map rToken r3.1)) rfl pv_assign ?_
            refine wo_val (.int .i64 r3.2.1) rfl pv_assign ?_
            refine wo_val (.int .i64 r3.2.2) rfl pv_assign ?_
            refine wo_nil ?_
            refine wr_seq ?_
            refine wr_region ?_
            refine wo_val (.int .i64 r3.2.2) rfl pv_move ?_
            refine wo_val (.bool (r3.2.2 != 0)) rfl (pv_bin rfl rfl rfl) ?_
            refine wo_val (.bool (r3.2.2 != 0)) rfl pv_move ?_
            refine wo_meet 3 [(0, (.sl 4 (List.map rToken l))), (1, (.str src)), (7, (.sl 4 (List.map rToken r3.1))), (46, (.bool ((r3.2.2 != 0) || (r3.2.1 != 0))))] ?_ fun hJ1 => wo_cases (r3.2.2 != 0) (fun hb3 => ?_) (fun hb3 => ?_)
            · refine wo_val (.bool ((r3.2.2 != 0) || (r3.2.1 != 0))) rfl pv_move ?_
              refine wo_join 5 ((fun (b : Bool) => if b then
(.ok false)
else
(law07_LexBack_j1 src)) : Bool → R Bool) (fun (b : Bool) (fr : Nat → AV) (h : AHeap) => fr = frA [(1, (.str src)), (52, (.bool b))] ∧ h = hp h0 ids []) ?_ fun hJ2 => of_if1 (fun hb5 => ?_) (fun hb5 => ?_)
              · rintro b fr h ⟨rfl, rfl⟩
                refine wo_nil ?_
                refine wf_iteb rfl (fun hc3 => ?_) (fun hc3 => ?_)
                · refine wr_seq ?_
                  refine wr_region ?_
                  refine wo_val (.bool false) rfl pv_assign ?_
                  refine wo_nil ?_
                  exact wr_ret (a := false) (vs := [(.bool false)]) Tryd.func5 hI rfl (.same _)
                · refine wr_skip ?_
                  refine wr_is [(1, (.str src))] (.cons rfl .nil) ?_
                  refine hJ5 () _ _ ?_
                  exact ⟨rfl, rfl⟩
              · refine wo_not (tj := 47) (b := true) rfl (congrArg AV.bool hb5) rfl rfl ?_
                refine wo_not (tj := 47) (b := true) rfl (congrArg AV.bool hb5) rfl rfl ?_
                refine wo_not (tj := 47) (b := true) rfl (congrArg AV.bool hb5) rfl rfl ?_
                refine wo_not (tj := 47) (b := true) rfl (congrArg AV.bool hb5) rfl rfl ?_
                refine wo_val (.bool true) rfl (pv_pick (t := true) (congrArg AV.bool hb5) rfl) ?_
                refine wo_back1 ?_
                refine wo_is [(1, (.str src)), (52, (.bool true))] (.cons rfl (.cons rfl .nil)) ?_
                exact hJ2 true _ _ ⟨rfl, rfl⟩
              · refine wo_valg (tj := 47) (.sl 4 (List.map rToken l)) rfl (congrArg AV.bool hb5) rfl pv_move ?_
                refine wo_valg (tj := 47) (.sl 4 (List.map rToken r3.1)) rfl (congrArg AV.bool hb5) rfl pv_move ?_
                refine of_call [(.sl 4 (List.map rToken l)), (.sl 4 (List.map rToken r3.1))] rfl (wanted_yes (tj := 47) rfl (congrArg AV.bool hb5)) rfl rfl ((cp_lex_Same l r3.1) _) (fun v _ => wu_pan Tryd.func5 hI) fun r4 _ => ?_
                refine wo_valg (tj := 47) (.bool (!r4)) rfl (congrArg AV.bool hb5) rfl (pv_un rfl) ?_
                refine wo_val (.bool (!r4)) rfl (pv_pick (t := false) (congrArg AV.bool hb5) rfl) ?_
                refine wo_back1 ?_
                refine wo_is [(1, (.str src)), (52, (.bool (!r4)))] (.cons rfl (.cons rfl .nil)) ?_
                exact hJ2 (!r4) _ _ ⟨rfl, rfl⟩
            · refine wo_not (tj := 43) (b := true) rfl (congrArg AV.bool hb3) rfl rfl ?_
              refine wo_not (tj := 43) (b := true) rfl (congrArg AV.bool hb3) rfl rfl ?_
              refine wo_val (.bool true) rfl (pv_pick (t := true) (congrArg AV.bool hb3) rfl) ?_
              exact wo_is [(0, (.sl 4 (List.map rToken l))), (1, (.str src)), (7, (.sl 4 (List.map rToken r3.1))), (46, (.bool ((r3.2.2 != 0) || (r3.2.1 != 0))))] (.cons rfl (.cons rfl (.cons rfl (.cons (or_t hb3) .nil)))) hJ1
            · refine wo_valg (tj := 43) (.int .i64 r3.2.1) rfl (congrArg AV.bool hb3) rfl pv_move ?_
              refine wo_valg (tj := 43) (.bool (r3.2.1 != 0)) rfl (congrArg AV.bool hb3) rfl (pv_bin rfl rfl rfl) ?_
              refine wo_val (.bool (r3.2.1 != 0)) rfl (pv_pick (t := false) (congrArg AV.bool hb3) rfl) ?_
              exact wo_is [(0, (.sl 4 (List.map rToken l))), (1, (.str src)), (7, (.sl 4 (List.map rToken r3.1))), (46, (.bool ((r3.2.2 != 0) || (r3.2.1 != 0))))] (.cons rfl (.cons rfl (.cons rfl (.cons (or_f hb3) .nil)))) hJ1
          · refine wr_skip ?_
            refine wr_is [(1, (.str src))] (.cons rfl .nil) ?_
            refine hJ5 () _ _ ?_
            exact ⟨rfl, rfl⟩
    · refine wo_not (tj := 23) (b := true) rfl (congrArg AV.bool hb1) rfl rfl ?_
      refine wo_not (tj := 23) (b := true) rfl (congrArg AV.bool hb1) rfl rfl ?_
      refine wo_not (tj := 23) (b := true) rfl (congrArg AV.bool hb1) rfl rfl ?_
      refine wo_val (.bool true) rfl (pv_pick (t := true) (congrArg AV.bool hb1) rfl) ?_
      exact wo_is [(0, (.sl 4 (List.map rToken l))), (1, (.str src)), (27, (.bool ((!r1) || (decide ((src.length : Int) > 3000)))))] (.cons rfl (.cons rfl (.cons (or_t hb1) .nil))) hJ
    · refine wo_valg (tj := 23) (.str src) rfl (congrArg AV.bool hb1) rfl pv_move ?_
      refine wo_valg (tj := 23) (.int .i64 (src.length : Int)) rfl (congrArg AV.bool hb1) rfl (pv_len (len_str ti9)) ?_
      refine wo_valg (tj := 23) (.bool (decide ((src.length : Int) > 3000))) rfl (congrArg AV.bool hb1) rfl (pv_bin rfl rfl rfl) ?_
      refine wo_val (.bool (decide ((src.length : Int) > 3000))) rfl (pv_pick (t := false) (congrArg AV.bool hb1) rfl) ?_
      exact wo_is [(0, (.sl 4 (List.map rToken l))), (1, (.str src)), (27, (.bool ((!r1) || (decide ((src.length : Int) > 3000)))))] (.cons rfl (.cons rfl (.cons (or_f hb1) .nil))) hJ
  · refine wr_seq ?_
    refine wr_region ?_
    refine wo_val (.bool false) rfl pv_assign ?_
    refine wo_nil ?_
    exact wr_ret (a := false) (vs := [(.bool false)]) Tryd.func5 hI rfl (.same _)

theorem cp_law07_spelled (t : Token) : CP Tryd.prog 23 [(.agg (rToken t))] (law07_spelled t) (fun (x : Str) => (AV.str x)) := by
  refine cp_intro (n := 25) 1 Tryd.func23 rfl (by decide) rfl rfl fun h0 ids hI => ?_
  refine wr_in (wr_mod (law07_spelled.eq_1 _) ?_)
  refine wr_seq ?_
  refine wr_region ?_
  refine wo_box (v := (.agg (rToken t))) (j := 0) hI rfl rfl rfl rfl rfl rfl rfl fun g => ?_
  refine wo_val (.str []) rfl pv_assign ?_
  refine wo_nil ?_
  refine wr_hp [(some (.rows g 4 [(rToken t)]))] rfl ?_
  refine wr_seq ?_
  refine wr_seq ?_
  refine wr_region ?_
  refine wo_val (.ptr (ix ids 0) g 0 0) rfl (pv_fa (fa_ptr (c := 0) (off := 0) (i := 0) ti35 rfl ti3 rfl)) ?_
  refine wo_val (.int .i64 t.Kind) rfl (pv_load (ld_ptr hI rfl rfl rfl ti3 rfl)) ?_
  refine wo_val (.bool (t.Kind != 2)) rfl (pv_bin rfl rfl rfl) ?_
  refine wo_nil ?_
  refine wf_iteb rfl (fun hc => ?_) (fun hc => ?_)
  · refine wr_seq ?_
    refine wr_region ?_
    refine wo_val (.ptr (ix ids 0) g 0 1) rfl (pv_fa (fa_ptr (c := 0) (off := 1) (i := 1) ti35 rfl ti9 rfl)) ?_
    refine wo_val (.str t.Text) rfl (pv_load (ld_ptr hI rfl rfl rfl ti9 rfl)) ?_
    refine wo_val (.str t.Text) rfl pv_assign ?_
    refine wo_nil ?_
    exact wr_ret (a := t.Text) (vs := [(.str t.Text)]) Tryd.func23 hI rfl (.same _)
  · refine wr_skip ?_
    refine wr_seq ?_
    refine wr_region ?_
    refine wo_val (.str []) rfl pv_assign ?_
    refine wo_nil ?_
    refine wr_seq ?_
    refine wr_region ?_
    refine wo_val (.ptr (ix ids 0) g 0 2) rfl (pv_fa (fa_ptr (c := 0) (off := 2) (i := 2) ti35 rfl ti3 rfl)) ?_
    refine wo_val (.int .i64 t.N) rfl (pv_load (ld_ptr hI rfl rfl rfl ti3 rfl)) ?_
    refine wo_val (.int .i64 t.N) rfl pv_assign ?_
    refine wo_nil ?_
    refine wr_block ?_
    refine wr_drop [none] hI rfl (.drop .nil) ?_
    refine wr_is [(3, (.str [])), (4, (.int .i64 t.N))] (.cons rfl (.cons rfl .nil)) ?_
    refine wf_loop' (P := Tryd.prog) (un2 fun s n => law07_spelled_b1 s n) ((fun r => .ok r) : Str → R Str)
      (un2 fun s n => fun (fr : Nat → AV) (h : AHeap) => fr = frA [(3, (.str s)), (4, (.int .i64 n))] ∧ h = hp h0 ids [none]) ([], t.N) ?_ ?_
    · exact ⟨rfl, rfl⟩
    · rintro vW hW ⟨s, n⟩ fr h ⟨rfl, rfl⟩
      refine wr_mod (m' := law07_spelled_b1 s n) rfl (wr_mod (law07_spelled_b1.eq_1 _ _) ?_)
      refine wr_seq ?_
      refine wr_block ?_
      refine wr_seq ?_
      refine wr_region ?_
      refine wo_val (.int .i64 n) rfl pv_move ?_
      refine wo_val (.int .i64 (Int.tmod n 10)) rfl (pv_bin rfl rfl (bin_rem rfl (by decide))) ?_
      refine wo_val (.int .i64 (IntKind.wrap .i64 (48 + (Int.tmod n 10)))) rfl (pv_bin rfl rfl rfl) ?_
      refine wo_val (.int .u8 (IntKind.wrap .u8 (IntKind.wrap .i64 (48 + (Int.tmod n 10))))) rfl (pv_conv (cv_int ti3 ti5)) ?_
      refine wo_bsC (e := (rI .u8)) (L := [(IntKind.wrap .u8 (IntKind.wrap .i64 (48 + (Int.tmod n 10))))]) (st := 1) (rows := [[(.int .u8 (IntKind.wrap .u8 (IntKind.wrap .i64 (48 + (Int.tmod n 10)))))]]) rfl ti39 ti5 rfl rfl rfl rfl rfl (.cons (RowSim.refl _) .nil) (fun x => ok_I x) rfl rfl ?_
      refine wo_val (.str (strOf [(IntKind.wrap .u8 (IntKind.wrap .i64 (48 + (Int.tmod n 10))))])) rfl (pv_conv (cv_bsl ti39 ti9 ti5 rfl)) ?_
      refine wo_val (.str s) rfl pv_move ?_
      refine of_need fun hl => ?_
      refine wo_val (.str ((strOf [(IntKind.wrap .u8 (IntKind.wrap .i64 (48 + (Int.tmod n 10))))]) ++ s)) rfl (pv_bin rfl rfl (bin_cat hl)) ?_
      refine wo_val (.str ((strOf [(IntKind.wrap .u8 (IntKind.wrap .i64 (48 + (Int.tmod n 10))))]) ++ s)) rfl pv_assign ?_
      refine wo_nil ?_
      refine wr_seq ?_
      refine wr_region ?_
      refine wo_val (.int .i64 n) rfl pv_move ?_
      refine wo_val (.bool (decide (n < 10))) rfl (pv_bin rfl rfl rfl) ?_
      refine wo_nil ?_
      refine wf_ite rfl (fun hc1 => ?_) (fun hc1 => ?_)
      · refine wr_seq ?_
        refine wr_region ?_
        refine wo_val (.str ((strOf [(IntKind.wrap .u8 (IntKind.wrap .i64 (48 + (Int.tmod n 10))))]) ++ s)) rfl pv_move ?_
        refine wo_val (.str ((strOf [(IntKind.wrap .u8 (IntKind.wrap .i64 (48 + (Int.tmod n 10))))]) ++ s)) rfl pv_assign ?_
        refine wo_nil ?_
        refine wx_loop ?_
        exact wr_ret (a := ((strOf [(IntKind.wrap .u8 (IntKind.wrap .i64 (48 + (Int.tmod n 10))))]) ++ s)) (vs := [(.str ((strOf [(IntKind.wrap .u8 (IntKind.wrap .i64 (48 + (Int.tmod n 10))))]) ++ s))]) Tryd.func23 hI rfl (.same _)
      · refine wr_skip ?_
        refine wr_inBlock ?_
        refine wr_region ?_
        refine wo_val (.int .i64 n) rfl pv_move ?_
        refine wo_val (.int .i64 (IntKind.wrap .i64 (Int.tdiv n 10))) rfl (pv_bin rfl rfl (bin_quo rfl (by decide))) ?_
        refine wo_val (.int .i64 (IntKind.wrap .i64 (Int.tdiv n 10))) rfl pv_assign ?_
        refine wo_nil ?_
        refine wr_is [(3, (.str ((strOf [(IntKind.wrap .u8 (IntKind.wrap .i64 (48 + (Int.tmod n 10))))]) ++ s))), (4, (.int .i64 (IntKind.wrap .i64 (Int.tdiv n 10))))] (.cons rfl (.cons rfl .nil)) ?_
        refine wb_loop ?_
        refine hW (((strOf [(IntKind.wrap .u8 (IntKind.wrap .i64 (48 + (Int.tmod n 10))))]) ++ s), (IntKind.wrap .i64 (Int.tdiv n 10))) _ _ ?_
        exact ⟨rfl, rfl⟩

theorem cp_law07_LexPlaces (a : Str) : CP Tryd.prog 6 [(.str a)] (law07_LexPlaces a) (fun (x : Bool) => (AV.bool x)) := by
  refine cp_intro (n := 132) 0 Tryd.func6 rfl (by decide) rfl rfl fun h0 ids hI => ?_
  refine wr_in (wr_mod (law07_LexPlaces.eq_1 _) ?_)
  refine wr_seq ?_
  refine wr_region ?_
  refine wo_val (.bool false) rfl pv_assign ?_
  refine wo_nil ?_
  refine wr_seq ?_
  refine wr_seq ?_
  refine wr_region ?_
  refine of_call [] rfl rfl rfl rfl ((cp_law07_sane) _) (fun v _ => wu_pan Tryd.func6 hI) fun r _ => ?_
  refine wo_val (.bool (!r)) rfl (pv_un rfl) ?_
  refine wo_nil ?_
  refine wf_itebn rfl (fun hc => ?_) (fun hc => ?_)
  · refine wr_skip ?_
    refine wr_seq ?_
    refine wr_seq ?_
    refine wr_region ?_
    refine wo_val (.str a) rfl pv_move ?_
    refine wo_val (.int .i64 (a.length : Int)) rfl (pv_len (len_str ti9)) ?_
    refine wo_val (.bool (decide ((a.length : Int) > 3000))) rfl (pv_bin rfl rfl rfl) ?_
    refine wo_nil ?_
    refine wf_ite rfl (fun hc1 => ?_) (fun hc1 => ?_)
    · refine wr_seq ?_
      refine wr_region ?_
      refine wo_val (.bool true) rfl pv_assign ?_
      refine wo_nil ?_
      exact wr_ret (a := true) (vs := [(.bool true)]) Tryd.func6 hI rfl (.same _)
    · refine wr_skip ?_
      refine wr_seq ?_
      refine wr_region ?_
      refine wo_val (.str a) rfl pv_move ?_
      refine of_call [(.str a)] rfl rfl rfl rfl ((cp_lex_Lex a) _) (fun v _ => wu_pan Tryd.func6 hI) fun r1 _ => ?_
      refine wo_val (.tup [(.sl 4 (List.map rToken r1.1)), (.int .i64 r1.2.1), (.int .i64 r1.2.2)]) rfl pv_move ?_
      refine wo_val (.sl 4 (List.map rToken r1.1)) rfl (pv_ext rfl) ?_
      refine wo_val (.int .i64 r1.2.1) rfl (pv_ext rfl) ?_
      refine wo_val (.int .i64 r1.2.2) rfl (pv_ext rfl) ?_
      refine wo_val (.sl 4 (List.map rToken r1.1)) rfl pv_assign ?_
      refine wo_val (.int .i64 r1.2.1) rfl pv_assign ?_
      refine wo_val (.int .i64 r1.2.2) rfl pv_assign ?_
      refine wo_nil ?_
      refine wr_seq ?_
      refine wr_seq ?_
      refine wr_region ?_
      refine wo_val (.int .i64 r1.2.2) rfl pv_move ?_
      refine wo_val (.bool (r1.2.2 != 0)) rfl (pv_bin rfl rfl rfl) ?_
      refine wo_nil ?_
      refine wf_iteb rfl (fun hc2 => ?_) (fun hc2 => ?_)
      · refine wr_seq ?_
        refine wr_region ?_
        refine wo_val (.sl 4 (List.map rToken r1.1)) rfl pv_move ?_
        refine wo_val (.int .i64 (r1.1.length : Int)) rfl (pv_len (len_sl ti23)) ?_
        refine wo_val (.bool ((r1.1.length : Int) == 0)) rfl (pv_bin rfl rfl rfl) ?_
        refine wo_val (.bool ((r1.1.length : Int) == 0)) rfl pv_assign ?_
        refine wo_nil ?_
        exact wr_ret (a := ((r1.1.length : Int) == 0)) (vs := [(.bool ((r1.1.length : Int) == 0))]) Tryd.func6 hI rfl (.same _)
      · refine wr_skip ?_
        refine wr_seq ?_
        refine wr_region ?_
        refine wo_val (.int .i64 0) rfl pv_assign ?_
        refine wo_nil ?_
        refine wr_seq ?_
        refine wr_seq ?_
        refine wr_region ?_
        refine wo_val (.int .i64 0) rfl pv_assign ?_
        refine wo_nil ?_
        refine wf_join (π := Unit) (fun _ => law07_LexPlaces_j3) (fun _ => fun (fr : Nat → AV) (h : AHeap) => fr = frA [] ∧ h = hp h0 ids []) ?_ fun hJ11 => ?_
        · rintro _ fr h ⟨rfl, rfl⟩
          refine wr_mod (law07_LexPlaces_j3.eq_1) ?_
          refine wr_seq ?_
          refine wr_region ?_
          refine wo_val (.bool true) rfl pv_assign ?_
          refine wo_nil ?_
          exact wr_ret (a := true) (vs := [(.bool true)]) Tryd.func6 hI rfl (.same _)
        · refine wr_block ?_
          refine wr_is [(0, (.str a)), (3, (.sl 4 (List.map rToken r1.1))), (6, (.int .i64 0)), (7, (.int .i64 0))] (.cons rfl (.cons rfl (.cons rfl (.cons rfl .nil)))) ?_
          refine wf_loop' (P := Tryd.prog) (un2 fun x x1 => law07_LexPlaces_b2 a r r1 x x1) ((alt (fun _ => law07_LexPlaces_j3) (fun r => .ok r)) : (Unit ⊕ Bool) → R Bool)
            (un2 fun x x1 => fun (fr : Nat → AV) (h : AHeap) => fr = frA [(0, (.str a)), (3, (.sl 4 (List.map rToken r1.1))), (6, (.int .i64 x)), (7, (.int .i64 x1))] ∧ h = hp h0 ids []) (0, 0) ?_ ?_
          · exact ⟨rfl, rfl⟩
          · rintro vW hW ⟨x, x1⟩ fr h ⟨rfl, rfl⟩
            refine wr_mod (m' := law07_LexPlaces_b2 a r r1 x x1) rfl (wr_mod (law07_LexPlaces_b2.eq_1 _ _ _ _ _) ?_)
            refine wr_seq ?_
            refine wr_seq ?_
            refine wr_region ?_
            refine wo_val (.int .i64 x1) rfl pv_move ?_
            refine wo_val (.sl 4 (List.map rToken r1.1)) rfl pv_move ?_
            refine wo_val (.int .i64 (r1.1.length : Int)) rfl (pv_len (len_sl ti23)) ?_
            refine wo_val (.bool (decide (x1 ≤ (r1.1.length : Int)))) rfl (pv_bin rfl rfl rfl) ?_
            refine wo_nil ?_
            refine wf_ite rfl (fun hc3 => ?_) (fun hc3 => ?_)
            · refine wr_skip ?_
              refine wr_seq ?_
              refine wr_block ?_
              refine wr_seq ?_
              refine wr_region ?_
              refine wo_val (.str a) rfl pv_move ?_
              refine wo_val (.int .i64 (a.length : Int)) rfl (pv_len (len_str ti9)) ?_
              refine wo_val (.int .i64 (a.length : Int)) rfl pv_assign ?_
              refine wo_nil ?_
              refine wr_seq ?_
              refine wr_seq ?_
              refine wr_region ?_
              refine wo_val (.int .i64 x1) rfl pv_move ?_
              refine wo_val (.sl 4 (List.map rToken r1.1)) rfl pv_move ?_
              refine wo_val (.int .i64 (r1.1.length : Int)) rfl (pv_len (len_sl ti23)) ?_
              refine wo_val (.bool (decide (x1 < (r1.1.length : Int)))) rfl (pv_bin rfl rfl rfl) ?_
              refine wo_nil ?_
              refine wf_join (fun x2 => law07_LexPlaces_j2 a r r1 x x1 x2) (fun x2 => fun (fr : Nat → AV) (h : AHeap) => fr = frA [(0, (.str a)), (3, (.sl 4 (List.map rToken r1.1))), (6, (.int .i64 x)), (7, (.int .i64 x1)), (8, (.int .i64 x2))] ∧ h = hp h0 ids []) ?_ fun hJ10 => ?_
              · rintro x2 fr h ⟨rfl, rfl⟩
                refine wr_mod (law07_LexPlaces_j2.eq_1 _ _ _ _ _ _) ?_
                refine wr_seq ?_
                refine wr_seq ?_
                refine wr_region ?_
                refine wo_val (.int .i64 x2) rfl pv_move ?_
                refine wo_val (.int .i64 x) rfl pv_move ?_
                refine wo_val (.bool (decide (x2 < x))) rfl (pv_bin rfl rfl rfl) ?_
                refine wo_val (.bool (decide (x2 < x))) rfl pv_move ?_
                refine wo_meet 5 [(0, (.str a)), (3, (.sl 4 (List.map rToken r1.1))), (6, (.int .i64 x)), (7, (.int .i64 x1)), (8, (.int .i64 x2)), (52, (.bool ((decide (x2 < x)) || (decide (x2 > (a.length : Int))))))] ?_ fun hJ => wo_cases (decide (x2 < x)) (fun hb1 => ?_) (fun hb1 => ?_)
                · refine wo_nil ?_
                  refine wf_iteb rfl (fun hc5 => ?_) (fun hc5 => ?_)
                  · refine wr_seq ?_
                    refine wr_region ?_
                    refine wo_val (.bool false) rfl pv_assign ?_
                    refine wo_nil ?_
                    refine wx_loop ?_
                    refine w_altr ?_
                    exact wr_ret (a := false) (vs := [(.bool false)]) Tryd.func6 hI rfl (.same _)
                  · refine wr_skip ?_
                    refine wr_seq ?_
                    refine wr_region ?_
                    refine wo_val (.bool false) rfl pv_assign ?_
                    refine wo_nil ?_
                    refine wr_seq ?_
                    refine wf_join (un2 fun x5 x6 => law07_LexPlaces_j1 a r1 x1 x5 x6) (un2 fun x5 x6 => fun (fr : Nat → AV) (h : AHeap) => fr = frA [(0, (.str a)), (3, (.sl 4 (List.map rToken r1.1))), (6, (.int .i64 x5)), (7, (.int .i64 x1)), (9, (.bool x6))] ∧ h = hp h0 ids []) ?_ fun hJ9 => ?_
                    · rintro ⟨x5, x6⟩ fr h ⟨rfl, rfl⟩
                      refine wr_mod (law07_LexPlaces_j1.eq_1 _ _ _ _ _) ?_
                      refine wr_seq ?_
                      refine wr_seq ?_
                      refine wr_region ?_
                      refine wo_val (.int .i64 x1) rfl pv_move ?_
                      refine wo_val (.sl 4 (List.map rToken r1.1)) rfl pv_move ?_
                      refine wo_val (.int .i64 (r1.1.length : Int)) rfl (pv_len (len_sl ti23)) ?_
                      refine wo_val (.bool (x1 == (r1.1.length : Int))) rfl (pv_bin rfl rfl rfl) ?_
                      refine wo_nil ?_
                      refine wf_iteb rfl (fun hc8 => ?_) (fun hc8 => ?_)
                      · refine wr_exit rfl ?_
                        refine wx_loop ?_
                        refine w_altl ?_
                        refine wr_is [] .nil ?_
                        refine hJ11 () _ _ ?_
                        exact ⟨rfl, rfl⟩
                      · refine wr_skip ?_
                        refine wr_seq ?_
                        refine wr_region ?_
                        refine wo_val (.sl 4 (List.map rToken r1.1)) rfl pv_move ?_
                        refine wo_val (.int .i64 x1) rfl pv_move ?_
                        refine of_idx fun a4 hz3 hx4 => ?_
                        refine wo_val (.cp (rToken a4) 0) rfl (pv_ixa (ixa_sl ti23 ti35 rfl hz3 hx4)) ?_
                        refine wo_val (.agg (rToken a4)) rfl (pv_load (ld_cp ti35 rfl)) ?_
                        refine of_call [(.agg (rToken a4))] rfl rfl rfl rfl ((cp_law07_spelled a4) _) (fun v _ => wu_pan Tryd.func6 hI) fun r3 _ => ?_
                        refine wo_val (.str r3) rfl pv_assign ?_
                        refine wo_nil ?_
                        refine wr_seq ?_
                        refine wr_seq ?_
                        refine wr_region ?_
                        refine wo_val (.bool x6) rfl pv_move ?_
                        refine wo_val (.bool x6) rfl pv_move ?_
                        refine wo_meet 4 [(0, (.str a)), (3, (.sl 4 (List.map rToken r1.1))), (6, (.int .i64 x5)), (7, (.int .i64 x1)), (10, (.str r3)), (107, (.bool (x6 || ((r3.length : Int) == 0))))] ?_ fun hJ6 => wo_cases x6 (fun hb13 => ?_) (fun hb13 => ?_)
                        · refine wo_val (.bool (x6 || ((r3.length : Int) == 0))) rfl pv_move ?_
                          refine wo_meet 8 [(0, (.str a)), (3, (.sl 4 (List.map rToken r1.1))), (6, (.int .i64 x5)), (7, (.int .i64 x1)), (10, (.str r3)), (116, (.bool ((x6 || ((r3.length : Int) == 0)) || (decide ((IntKind.wrap .i64 (x5 + (r3.length : Int))) > (a.length : Int))))))] ?_ fun hJ7 => wo_cases (x6 || ((r3.length : Int) == 0)) (fun hb15 => ?_) (fun hb15 => ?_)
                          · refine wo_val (.bool ((x6 || ((r3.length : Int) == 0)) || (decide ((IntKind.wrap .i64 (x5 + (r3.length : Int))) > (a.length : Int))))) rfl pv_move ?_
                            refine wo_join 10 ((fun (b4 : Bool) => if b4 then
(.ok (.inr (.inr (false))))
else
(.ok (.inl ((IntKind.wrap .i64 (x5 + (r3.length : Int))), (IntKind.wrap .i64 (x1 + 1)))))) : Bool → R ((Int × Int) ⊕ (Unit ⊕ Bool))) (fun (b4 : Bool) (fr : Nat → AV) (h : AHeap) => fr = frA [(0, (.str a)), (3, (.sl 4 (List.map rToken r1.1))), (6, (.int .i64 x5)), (7, (.int .i64 x1)), (10, (.str r3)), (127, (.bool b4))] ∧ h = hp h0 ids []) ?_ fun hJ8 => of_if1 (fun hb17 => ?_) (fun hb17 => ?_)
                            · rintro b4 fr h ⟨rfl, rfl⟩
                              refine wo_nil ?_
                              refine wf_iteb rfl (fun hc9 => ?_) (fun hc9 => ?_)
                              · refine wr_seq ?_
                                refine wr_region ?_
                                refine wo_val (.bool false) rfl pv_assign ?_
                                refine wo_nil ?_
                                refine wx_loop ?_
                                refine w_altr ?_
                                exact wr_ret (a := false) (vs := [(.bool false)]) Tryd.func6 hI rfl (.same _)
                              · refine wr_skip ?_
                                refine wr_region ?_
                                refine wo_val (.int .i64 x5) rfl pv_move ?_
                                refine wo_val (.str r3) rfl pv_move ?_
                                refine wo_val (.int .i64 (r3.length : Int)) rfl (pv_len (len_str ti9)) ?_
                                refine wo_val (.int .i64 (IntKind.wrap .i64 (x5 + (r3.length : Int)))) rfl (pv_bin rfl rfl rfl) ?_
                                refine wo_val (.int .i64 (IntKind.wrap .i64 (x5 + (r3.length : Int)))) rfl pv_assign ?_
                                refine wo_nil ?_
                                refine wr_inBlock ?_
                                refine wr_region ?_
                                refine wo_val (.int .i64 x1) rfl pv_move ?_
                                refine wo_val (.int .i64 (IntKind.wrap .i64 (x1 + 1))) rfl (pv_bin rfl rfl rfl) ?_
                                refine wo_val (.int .i64 (IntKind.wrap .i64 (x1 + 1))) rfl pv_assign ?_
                                refine wo_nil ?_
                                refine wr_is [(0, (.str a)), (3, (.sl 4 (List.map rToken r1.1))), (6, (.int .i64 (IntKind.wrap .i64 (x5 + (r3.length : Int))))), (7, (.int .i64 (IntKind.wrap .i64 (x1 + 1))))] (.cons rfl (.cons rfl (.cons rfl (.cons rfl .nil)))) ?_
                                refine wb_loop ?_
                                refine hW ((IntKind.wrap .i64 (x5 + (r3.length : Int))), (IntKind.wrap .i64 (x1 + 1))) _ _ ?_
                                exact ⟨rfl, rfl⟩
                            · refine wo_not (tj := 117) (b := true) rfl (congrArg AV.bool hb17) rfl rfl ?_
                              refine wo_not (tj := 117) (b := true) rfl (congrArg AV.bool hb17) rfl rfl ?_
                              refine wo_not (tj := 117) (b := true) rfl (congrArg AV.bool hb17) rfl rfl ?_
                              refine wo_not (tj := 117) (b := true) rfl (congrArg AV.bool hb17) rfl rfl ?_
                              refine wo_not (tj := 117) (b := true) rfl (congrArg AV.bool hb17) rfl rfl ?_
                              refine wo_not (tj := 117) (b := true) rfl (congrArg AV.bool hb17) rfl rfl ?_
                              refine wo_not (tj := 117) (b := true) rfl (congrArg AV.bool hb17) rfl rfl ?_
                              refine wo_not (tj := 117) (b := true) rfl (congrArg AV.bool hb17) rfl rfl ?_
                              refine wo_not (tj := 117) (b := true) rfl (congrArg AV.bool hb17) rfl rfl ?_
                              refine wo_val (.bool true) rfl (pv_pick (t := true) (congrArg AV.bool hb17) rfl) ?_
                              refine wo_back1 ?_
                              refine wo_is [(0, (.str a)), (3, (.sl 4 (List.map rToken r1.1))), (6, (.int .i64 x5)), (7, (.int .i64 x1)), (10, (.str r3)), (127, (.bool true))] (.cons rfl (.cons rfl (.cons rfl (.cons rfl (.cons rfl (.cons rfl .nil)))))) ?_
                              exact hJ8 true _ _ ⟨rfl, rfl⟩
                            · refine wo_valg (tj := 117) (.str a) rfl (congrArg AV.bool hb17) rfl pv_move ?_
                              refine wo_valg (tj := 117) (.int .i64 x5) rfl (congrArg AV.bool hb17) rfl pv_move ?_
                              refine wo_valg (tj := 117) (.int .i64 x5) rfl (congrArg AV.bool hb17) rfl pv_move ?_
                              refine wo_valg (tj := 117) (.str r3) rfl (congrArg AV.bool hb17) rfl pv_move ?_
                              refine wo_valg (tj := 117) (.int .i64 (r3.length : Int)) rfl (congrArg AV.bool hb17) rfl (pv_len (len_str ti9)) ?_
                              refine wo_valg (tj := 117) (.int .i64 (IntKind.wrap .i64 (x5 + (r3.length : Int)))) rfl (congrArg AV.bool hb17) rfl (pv_bin rfl rfl rfl) ?_
                              refine of_need fun hs => ?_
                              refine wo_valg (tj := 117) (.str (cut a x5 (IntKind.wrap .i64 (x5 + (r3.length : Int))))) rfl (congrArg AV.bool hb17) rfl (pv_slice (sl_str ti9 hs)) ?_
                              refine wo_valg (tj := 117) (.str r3) rfl (congrArg AV.bool hb17) rfl pv_move ?_
                              refine wo_valg (tj := 117) (.bool (!((cut a x5 (IntKind.wrap .i64 (x5 + (r3.length : Int)))) == r3))) rfl (congrArg AV.bool hb17) rfl (pv_bin rfl rfl rfl) ?_
                              refine wo_val (.bool (!((cut a x5 (IntKind.wrap .i64 (x5 + (r3.length : Int)))) == r3))) rfl (pv_pick (t := false) (congrArg AV.bool hb17) rfl) ?_
                              refine wo_back1 ?_
                              refine wo_is [(0, (.str a)), (3, (.sl 4 (List.map rToken r1.1))), (6, (.int .i64 x5)), (7, (.int .i64 x1)), (10, (.str r3)), (127, (.bool (!((cut a x5 (IntKind.wrap .i64 (x5 + (r3.length : Int)))) == r3))))] (.cons rfl (.cons rfl (.cons rfl (.cons rfl (.cons rfl (.cons rfl .nil)))))) ?_
                              exact hJ8 (!((cut a x5 (IntKind.wrap .i64 (x5 + (r3.length : Int)))) == r3)) _ _ ⟨rfl, rfl⟩
                          · refine wo_not (tj := 108) (b := true) rfl (congrArg AV.bool hb15) rfl rfl ?_
                            refine wo_not (tj := 108) (b := true) rfl (congrArg AV.bool hb15) rfl rfl ?_
                            refine wo_not (tj := 108) (b := true) rfl (congrArg AV.bool hb15) rfl rfl ?_
                            refine wo_not (tj := 108) (b := true) rfl (congrArg AV.bool hb15) rfl rfl ?_
                            refine wo_not (tj := 108) (b := true) rfl (congrArg AV.bool hb15) rfl rfl ?_
                            refine wo_not (tj := 108) (b := true) rfl (congrArg AV.bool hb15) rfl rfl ?_
                            refine wo_not (tj := 108) (b := true) rfl (congrArg AV.bool hb15) rfl rfl ?_
                            refine wo_val (.bool true) rfl (pv_pick (t := true) (congrArg AV.bool hb15) rfl) ?_
                            exact wo_is [(0, (.str a)), (3, (.sl 4 (List.map rToken r1.1))), (6, (.int .i64 x5)), (7, (.int .i64 x1)), (10, (.str r3)), (116, (.bool ((x6 || ((r3.length : Int) == 0)) || (decide ((IntKind.wrap .i64 (x5 + (r3.length : Int))) > (a.length : Int))))))] (.cons rfl (.cons rfl (.cons rfl (.cons rfl (.cons rfl (.cons (or_t hb15) .nil)))))) hJ7
                          · refine wo_valg (tj := 108) (.int .i64 x5) rfl (congrArg AV.bool hb15) rfl pv_move ?_
                            refine wo_valg (tj := 108) (.str r3) rfl (congrArg AV.bool hb15) rfl pv_move ?_
                            refine wo_valg (tj := 108) (.int .i64 (r3.length : Int)) rfl (congrArg AV.bool hb15) rfl (pv_len (len_str ti9)) ?_
                            refine wo_valg (tj := 108) (.int .i64 (IntKind.wrap .i64 (x5 + (r3.length : Int)))) rfl (congrArg AV.bool hb15) rfl (pv_bin rfl rfl rfl) ?_
                            refine wo_valg (tj := 108) (.str a) rfl (congrArg AV.bool hb15) rfl pv_move ?_
                            refine wo_valg (tj := 108) (.int .i64 (a.length : Int)) rfl (congrArg AV.bool hb15) rfl (pv_len (len_str ti9)) ?_
                            refine wo_valg (tj := 108) (.bool (decide ((IntKind.wrap .i64 (x5 + (r3.length : Int))) > (a.length : Int)))) rfl (congrArg AV.bool hb15) rfl (pv_bin rfl rfl rfl) ?_
                            refine wo_val (.bool (decide ((IntKind.wrap .i64 (x5 + (r3.length : Int))) > (a.length : Int)))) rfl (pv_pick (t := false) (congrArg AV.bool hb15) rfl) ?_
                            exact wo_is [(0, (.str a)), (3, (.sl 4 (List.map rToken r1.1))), (6, (.int .i64 x5)), (7, (.int .i64 x1)), (10, (.str r3)), (116, (.bool ((x6 || ((r3.length : Int) == 0)) || (decide ((IntKind.wrap .i64 (x5 + (r3.length : Int))) > (a.length : Int))))))] (.cons rfl (.cons rfl (.cons rfl (.cons rfl (.cons rfl (.cons (or_f hb15) .nil)))))) hJ7
                        · refine wo_not (tj := 103) (b := true) rfl (congrArg AV.bool hb13) rfl rfl ?_
                          refine wo_not (tj := 103) (b := true) rfl (congrArg AV.bool hb13) rfl rfl ?_
                          refine wo_not (tj := 103) (b := true) rfl (congrArg AV.bool hb13) rfl rfl ?_
                          refine wo_val (.bool true) rfl (pv_pick (t := true) (congrArg AV.bool hb13) rfl) ?_
                          exact wo_is [(0, (.str a)), (3, (.sl 4 (List.map rToken r1.1))), (6, (.int .i64 x5)), (7, (.int .i64 x1)), (10, (.str r3)), (107, (.bool (x6 || ((r3.length : Int) == 0))))] (.cons rfl (.cons rfl (.cons rfl (.cons rfl (.cons rfl (.cons (or_t hb13) .nil)))))) hJ6
                        · refine wo_valg (tj := 103) (.str r3) rfl (congrArg AV.bool hb13) rfl pv_move ?_
                          refine wo_valg (tj := 103) (.int .i64 (r3.length : Int)) rfl (congrArg AV.bool hb13) rfl (pv_len (len_str ti9)) ?_
                          refine wo_valg (tj := 103) (.bool ((r3.length : Int) == 0)) rfl (congrArg AV.bool hb13) rfl (pv_bin rfl rfl rfl) ?_
                          refine wo_val (.bool ((r3.length : Int) == 0)) rfl (pv_pick (t := false) (congrArg AV.bool hb13) rfl) ?_
                          exact wo_is [(0, (.str a)), (3, (.sl 4 (List.map rToken r1.1))), (6, (.int .i64 x5)), (7, (.int .i64 x1)), (10, (.str r3)), (107, (.bool (x6 || ((r3.length : Int) == 0))))] (.cons rfl (.cons rfl (.cons rfl (.cons rfl (.cons rfl (.cons (or_f hb13) .nil)))))) hJ6
                    · refine wr_block ?_
                      refine wr_is [(0, (.str a)), (3, (.sl 4 (List.map rToken r1.1))), (6, (.int .i64 x)), (7, (.int .i64 x1)), (8, (.int .i64 x2)), (9, (.bool false))] (.cons rfl (.cons rfl (.cons rfl (.cons rfl (.cons rfl (.cons rfl .nil)))))) ?_
                      refine wf_loop' (P := Tryd.prog) (un2 fun x3 x4 => law07_LexPlaces_b1 a x2 x3 x4) ((alt (un2 fun x5 x6 => law07_LexPlaces_j1 a r1 x1 x5 x6) (fun r => .ok (.inr (.inr (r))))) : ((Int × Bool) ⊕ Bool) → R ((Int × Int) ⊕ (Unit ⊕ Bool)))
                        (un2 fun x3 x4 => fun (fr : Nat → AV) (h : AHeap) => fr = frA [(0, (.str a)), (3, (.sl 4 (List.map rToken r1.1))), (6, (.int .i64 x3)), (7, (.int .i64 x1)), (8, (.int .i64 x2)), (9, (.bool x4))] ∧ h = hp h0 ids []) (x, false) ?_ ?_
                      · exact ⟨rfl, rfl⟩
                      · rintro vW1 hW1 ⟨x3, x4⟩ fr h ⟨rfl, rfl⟩
                        refine wr_mod (m' := law07_LexPlaces_b1 a x2 x3 x4) rfl (wr_mod (law07_LexPlaces_b1.eq_1 _ _ _ _) ?_)
                        refine wr_seq ?_
                        refine wr_seq ?_
                        refine wr_region ?_
                        refine wo_val (.int .i64 x3) rfl pv_move ?_
                        refine wo_val (.int .i64 x2) rfl pv_move ?_
                        refine wo_val (.bool (decide (x3 < x2))) rfl (pv_bin rfl rfl rfl) ?_
                        refine wo_nil ?_
                        refine wf_ite rfl (fun hc6 => ?_) (fun hc6 => ?_)
                        · refine wr_skip ?_
                          refine wr_seq ?_
                          refine wr_block ?_
                          refine wr_seq ?_
                          refine wr_region ?_
                          refine wo_val (.str a) rfl pv_move ?_
                          refine wo_val (.int .i64 x3) rfl pv_move ?_
                          refine of_idx fun a2 hz1 hx2 => ?_
                          refine wo_val (.int .u8 (a2.toNat : Int)) rfl (pv_ix (ix_str ti9 hz1 hx2)) ?_
                          refine wo_val (.bool ((a2.toNat : Int) != 10)) rfl (pv_bin rfl rfl rfl) ?_
                          refine wo_val (.bool ((a2.toNat : Int) != 10)) rfl pv_move ?_
                          refine wo_join 21 ((fun (b : Bool) => (if (!b) then (ref07_Space (a2.toNat : Int)).bind fun r2 =>
  R.ok (!r2) else R.ok false).bind (fun (b3 : Bool) => if b3 then
(.ok (.inr (.inr (false))))
else
(.ok (.inl ((IntKind.wrap .i64 (x3 + 1)), b))))) : Bool → R ((Int × Bool) ⊕ ((Int × Bool) ⊕ Bool))) (fun (b : Bool) (fr : Nat → AV) (h : AHeap) => fr = frA [(0, (.str a)), (3, (.sl 4 (List.map rToken r1.1))), (6, (.int .i64 x3)), (7, (.int .i64 x1)), (8, (.int .i64 x2)), (83, (.bool b))] ∧ h = hp h0 ids []) ?_ fun hJ1 => of_if1 (fun hb3 => ?_) (fun hb3 => ?_)
                          · rintro b fr h ⟨rfl, rfl⟩
                            refine wo_val (.bool b) rfl pv_assign ?_
                            refine wo_nil ?_
                            refine wr_seq ?_
                            refine wr_region ?_
                            refine wo_val (.bool b) rfl pv_move ?_
                            refine wo_val (.bool (!b)) rfl (pv_un rfl) ?_
                            refine wo_val (.bool (!b)) rfl pv_move ?_
                            refine wo_join 6 ((fun (b3 : Bool) => if b3 then
(.ok (.inr (.inr (false))))
else
(.ok (.inl ((IntKind.wrap .i64 (x3 + 1)), b)))) : Bool → R ((Int × Bool) ⊕ ((Int × Bool) ⊕ Bool))) (fun (b3 : Bool) (fr : Nat → AV) (h : AHeap) => fr = frA [(0, (.str a)), (3, (.sl 4 (List.map rToken r1.1))), (6, (.int .i64 x3)), (7, (.int .i64 x1)), (8, (.int .i64 x2)), (9, (.bool b)), (92, (.bool b3))] ∧ h = hp h0 ids []) ?_ fun hJ5 => of_if1 (fun hb11 => ?_) (fun hb11 => ?_)
                            · rintro b3 fr h ⟨rfl, rfl⟩
                              refine wo_nil ?_
                              refine wf_iteb rfl (fun hc7 => ?_) (fun hc7 => ?_)
                              · refine wr_seq ?_
                                refine wr_region ?_
                                refine wo_val (.bool false) rfl pv_assign ?_
                                refine wo_nil ?_
                                refine wx_loop ?_
                                refine w_altr ?_
                                refine wx_loop ?_
                                refine w_altr ?_
                                exact wr_ret (a := false) (vs := [(.bool false)]) Tryd.func6 hI rfl (.same _)
                              · refine wr_skip ?_
                                refine wr_inBlock ?_
                                refine wr_region ?_
                                refine wo_val (.int .i64 x3) rfl pv_move ?_
                                refine wo_val (.int .i64 (IntKind.wrap .i64 (x3 + 1))) rfl (pv_bin rfl rfl rfl) ?_
                                refine wo_val (.int .i64 (IntKind.wrap .i64 (x3 + 1))) rfl pv_assign ?_
                                refine wo_nil ?_
                                refine wr_is [(0, (.str a)), (3, (.sl 4 (List.map rToken r1.1))), (6, (.int .i64 (IntKind.wrap .i64 (x3 + 1)))), (7, (.int .i64 x1)), (8, (.int .i64 x2)), (9, (.bool b))] (.cons rfl (.cons rfl (.cons rfl (.cons rfl (.cons rfl (.cons rfl .nil)))))) ?_
                                refine wb_loop ?_
                                refine hW1 ((IntKind.wrap .i64 (x3 + 1)), b) _ _ ?_
                                exact ⟨rfl, rfl⟩
                            · refine wo_valg (tj := 86) (.str a) rfl (congrArg AV.bool hb11) rfl pv_move ?_
                              refine wo_valg (tj := 86) (.int .i64 x3) rfl (congrArg AV.bool hb11) rfl pv_move ?_
                              refine wo_valg (tj := 86) (.int .u8 (a2.toNat : Int)) rfl (congrArg AV.bool hb11) rfl (pv_ix (ix_str ti9 hz1 hx2)) ?_
                              refine of_call [(.int .u8 (a2.toNat : Int))] rfl (wanted_yes (tj := 86) rfl (congrArg AV.bool hb11)) rfl rfl ((cp_ref07_Space (a2.toNat : Int)) _) (fun v _ => wu_pan Tryd.func6 hI) fun r2 _ => ?_
                              refine wo_valg (tj := 86) (.bool (!r2)) rfl (congrArg AV.bool hb11) rfl (pv_un rfl) ?_
                              refine wo_val (.bool (!r2)) rfl (pv_pick (t := true) (congrArg AV.bool hb11) rfl) ?_
                              refine wo_back1 ?_
                              refine wo_is [(0, (.str a)), (3, (.sl 4 (List.map rToken r1.1))), (6, (.int .i64 x3)), (7, (.int .i64 x1)), (8, (.int .i64 x2)), (9, (.bool b)), (92, (.bool (!r2)))] (.cons rfl (.cons rfl (.cons rfl (.cons rfl (.cons rfl (.cons rfl (.cons rfl .nil))))))) ?_
                              exact hJ5 (!r2) _ _ ⟨rfl, rfl⟩
                            · refine wo_not (tj := 86) (b := false) rfl (congrArg AV.bool hb11) rfl rfl ?_
                              refine wo_not (tj := 86) (b := false) rfl (congrArg AV.bool hb11) rfl rfl ?_
                              refine wo_not (tj := 86) (b := false) rfl (congrArg AV.bool hb11) rfl rfl ?_
                              refine wo_not (tj := 86) (b := false) rfl (congrArg AV.bool hb11) rfl rfl ?_
                              refine wo_not (tj := 86) (b := false) rfl (congrArg AV.bool hb11) rfl rfl ?_
                              refine wo_val (.bool false) rfl (pv_pick (t := false) (congrArg AV.bool hb11) rfl) ?_
                              refine wo_back1 ?_
                              refine wo_is [(0, (.str a)), (3, (.sl 4 (List.map rToken r1.1))), (6, (.int .i64 x3)), (7, (.int .i64 x1)), (8, (.int .i64 x2)), (9, (.bool b)), (92, (.bool false))] (.cons rfl (.cons rfl (.cons rfl (.cons rfl (.cons rfl (.cons rfl (.cons rfl .nil))))))) ?_
                              exact hJ5 false _ _ ⟨rfl, rfl⟩
                          · refine wo_valg (tj := 62) (.bool x4) rfl (congrArg AV.bool hb3) rfl pv_move ?_
                            refine wo_valg (tj := 62) (.bool x4) rfl (congrArg AV.bool hb3) rfl pv_move ?_
                            refine wo_join 18 ((fun (b1 : Bool) => R.ok b1) : Bool → R Bool) (fun (b1 : Bool) (fr : Nat → AV) (h : AHeap) => fr = frA [(0, (.str a)), (3, (.sl 4 (List.map rToken r1.1))), (6, (.int .i64 x3)), (7, (.int .i64 x1)), (8, (.int .i64 x2)), (62, (.bool ((a2.toNat : Int) != 10))), (63, (.bool x4)), (64, (.bool x4)), (82, (.bool b1))] ∧ h = hp h0 ids []) ?_ fun hJ2 => of_if1 (fun hb5 => ?_) (fun hb5 => ?_)
                            · rintro b1 fr h ⟨rfl, rfl⟩
                              refine wo_val (.bool b1) rfl (pv_pick (t := true) (congrArg AV.bool hb3) rfl) ?_
                              refine wo_back1 ?_
                              refine wo_is [(0, (.str a)), (3, (.sl 4 (List.map rToken r1.1))), (6, (.int .i64 x3)), (7, (.int .i64 x1)), (8, (.int .i64 x2)), (83, (.bool b1))] (.cons rfl (.cons rfl (.cons rfl (.cons rfl (.cons rfl (.cons rfl .nil)))))) ?_
                              exact hJ1 b1 _ _ ⟨rfl, rfl⟩
                            · refine wo_not (tj := 64) (b := true) rfl (congrArg AV.bool hb5) rfl rfl ?_
                              refine wo_not (tj := 64) (b := true) rfl (congrArg AV.bool hb5) rfl rfl ?_
                              refine wo_not (tj := 64) (b := true) rfl (congrArg AV.bool hb5) rfl rfl ?_
                              refine wo_not (tj := 64) (b := true) rfl (congrArg AV.bool hb5) rfl rfl ?_
                              refine wo_not (tj := 64) (b := true) rfl (congrArg AV.bool hb5) rfl rfl ?_
                              refine wo_notu (tj := 69) rfl rfl rfl ?_
                              refine wo_notu (tj := 69) rfl rfl rfl ?_
                              refine wo_notu (tj := 69) rfl rfl rfl ?_
                              refine wo_notu (tj := 69) rfl rfl rfl ?_
                              refine wo_not (tj := 64) (b := true) rfl (congrArg AV.bool hb5) rfl rfl ?_
                              refine wo_not (tj := 64) (b := true) rfl (congrArg AV.bool hb5) rfl rfl ?_
                              refine wo_notu (tj := 75) rfl rfl rfl ?_
                              refine wo_notu (tj := 75) rfl rfl rfl ?_
                              refine wo_notu (tj := 75) rfl rfl rfl ?_
                              refine wo_notu (tj := 75) rfl rfl rfl ?_
                              refine wo_notu (tj := 75) rfl rfl rfl ?_
                              refine wo_not (tj := 64) (b := true) rfl (congrArg AV.bool hb5) rfl rfl ?_
                              refine wo_valg (tj := 62) (.bool true) rfl (congrArg AV.bool hb3) rfl (pv_pick (t := true) (congrArg AV.bool hb5) rfl) ?_
                              refine wo_back1 ?_
                              refine wo_is [(0, (.str a)), (3, (.sl 4 (List.map rToken r1.1))), (6, (.int .i64 x3)), (7, (.int .i64 x1)), (8, (.int .i64 x2)), (62, (.bool ((a2.toNat : Int) != 10))), (63, (.bool x4)), (64, (.bool x4)), (82, (.bool true))] (.cons rfl (.cons rfl (.cons rfl (.cons rfl (.cons rfl (.cons rfl (.cons rfl (.cons rfl (.cons rfl .nil))))))))) ?_
                              exact hJ2 true _ _ ⟨rfl, rfl⟩
                            · refine wo_valg (tj := 64) (.str a) rfl (congrArg AV.bool hb5) rfl pv_move ?_
                              refine wo_valg (tj := 64) (.int .i64 x3) rfl (congrArg AV.bool hb5) rfl pv_move ?_
                              refine wo_valg (tj := 64) (.int .u8 (a2.toNat : Int)) rfl (congrArg AV.bool hb5) rfl (pv_ix (ix_str ti9 hz1 hx2)) ?_
                              refine wo_valg (tj := 64) (.bool ((a2.toNat : Int) == 47)) rfl (congrArg AV.bool hb5) rfl (pv_bin rfl rfl rfl) ?_
                              refine wo_valg (tj := 64) (.bool ((a2.toNat : Int) == 47)) rfl (congrArg AV.bool hb5) rfl pv_move ?_
                              refine wo_meet 5 [(0, (.str a)), (3, (.sl 4 (List.map rToken r1.1))), (6, (.int .i64 x3)), (7, (.int .i64 x1)), (8, (.int .i64 x2)), (62, (.bool ((a2.toNat : Int) != 10))), (63, (.bool x4)), (64, (.bool x4)), (65, (.str a)), (66, (.int .i64 x3)), (67, (.int .u8 (a2.toNat : Int))), (68, (.bool ((a2.toNat : Int) == 47))), (69, (.bool ((a2.toNat : Int) == 47))), (74, (.bool (((a2.toNat : Int) == 47) && (decide ((IntKind.wrap .i64 (x3 + 1)) < x2)))))] ?_ fun hJ3 => wo_cases ((a2.toNat : Int) == 47) (fun hb7 => ?_) (fun hb7 => ?_)
                              · refine wo_valg (tj := 64) (.bool (((a2.toNat : Int) == 47) && (decide ((IntKind.wrap .i64 (x3 + 1)) < x2)))) rfl (congrArg AV.bool hb5) rfl pv_move ?_
                                refine wo_join 6 ((fun (b2 : Bool) => R.ok b2) : Bool → R Bool) (fun (b2 : Bool) (fr : Nat → AV) (h : AHeap) => fr = frA [(0, (.str a)), (3, (.sl 4 (List.map rToken r1.1))), (6, (.int .i64 x3)), (7, (.int .i64 x1)), (8, (.int .i64 x2)), (62, (.bool ((a2.toNat : Int) != 10))), (63, (.bool x4)), (64, (.bool x4)), (65, (.str a)), (66, (.int .i64 x3)), (67, (.int .u8 (a2.toNat : Int))), (68, (.bool ((a2.toNat : Int) == 47))), (69, (.bool ((a2.toNat : Int) == 47))), (74, (.bool (((a2.toNat : Int) == 47) && (decide ((IntKind.wrap .i64 (x3 + 1)) < x2))))), (75, (.bool (((a2.toNat : Int) == 47) && (decide ((IntKind.wrap .i64 (x3 + 1)) < x2))))), (81, (.bool b2))] ∧ h = hp h0 ids []) ?_ fun hJ4 => of_if1 (fun hb9 => ?_) (fun hb9 => ?_)
                                · rintro b2 fr h ⟨rfl, rfl⟩
                                  refine wo_valg (tj := 62) (.bool b2) rfl (congrArg AV.bool hb3) rfl (pv_pick (t := false) (congrArg AV.bool hb5) rfl) ?_
                                  refine wo_back1 ?_
                                  refine wo_is [(0, (.str a)), (3, (.sl 4 (List.map rToken r1.1))), (6, (.int .i64 x3)), (7, (.int .i64 x1)), (8, (.int .i64 x2)), (62, (.bool ((a2.toNat : Int) != 10))), (63, (.bool x4)), (64, (.bool x4)), (82, (.bool b2))] (.cons rfl (.cons rfl (.cons rfl (.cons rfl (.cons rfl (.cons rfl (.cons rfl (.cons rfl (.cons rfl .nil))))))))) ?_
                                  exact hJ2 b2 _ _ ⟨rfl, rfl⟩
                                · refine wo_valg (tj := 75) (.str a) rfl (congrArg AV.bool hb9) rfl pv_move ?_
                                  refine wo_valg (tj := 75) (.int .i64 x3) rfl (congrArg AV.bool hb9) rfl pv_move ?_
                                  refine wo_valg (tj := 75) (.int .i64 (IntKind.wrap .i64 (x3 + 1))) rfl (congrArg AV.bool hb9) rfl (pv_bin rfl rfl rfl) ?_
                                  refine of_idx fun a3 hz2 hx3 => ?_
                                  refine wo_valg (tj := 75) (.int .u8 (a3.toNat : Int)) rfl (congrArg AV.bool hb9) rfl (pv_ix (ix_str ti9 hz2 hx3)) ?_
                                  refine wo_valg (tj := 75) (.bool ((a3.toNat : Int) == 47)) rfl (congrArg AV.bool hb9) rfl (pv_bin rfl rfl rfl) ?_
                                  refine wo_valg (tj := 64) (.bool ((a3.toNat : Int) == 47)) rfl (congrArg AV.bool hb5) rfl (pv_pick (t := true) (congrArg AV.bool hb9) rfl) ?_
                                  refine wo_back1 ?_
                                  refine wo_is [(0, (.str a)), (3, (.sl 4 (List.map rToken r1.1))), (6, (.int .i64 x3)), (7, (.int .i64 x1)), (8, (.int .i64 x2)), (62, (.bool ((a2.toNat : Int) != 10))), (63, (.bool x4)), (64, (.bool x4)), (65, (.str a)), (66, (.int .i64 x3)), (67, (.int .u8 (a2.toNat : Int))), (68, (.bool ((a2.toNat : Int) == 47))), (69, (.bool ((a2.toNat : Int) == 47))), (74, (.bool (((a2.toNat : Int) == 47) && (decide ((IntKind.wrap .i64 (x3 + 1)) < x2))))), (75, (.bool (((a2.toNat : Int) == 47) && (decide ((IntKind.wrap .i64 (x3 + 1)) < x2))))), (81, (.bool ((a3.toNat : Int) == 47)))] (.cons rfl (.cons rfl (.cons rfl (.cons rfl (.cons rfl (.cons rfl (.cons rfl (.cons rfl (.cons rfl (.cons rfl (.cons rfl (.cons rfl (.cons rfl (.cons rfl (.cons rfl (.cons rfl .nil)))))))))))))))) ?_
                                  exact hJ4 ((a3.toNat : Int) == 47) _ _ ⟨rfl, rfl⟩
                                · refine wo_not (tj := 75) (b := false) rfl (congrArg AV.bool hb9) rfl rfl ?_
                                  refine wo_not (tj := 75) (b := false) rfl (congrArg AV.bool hb9) rfl rfl ?_
                                  refine wo_not (tj := 75) (b := false) rfl (congrArg AV.bool hb9) rfl rfl ?_
                                  refine wo_not (tj := 75) (b := false) rfl (congrArg AV.bool hb9) rfl rfl ?_
                                  refine wo_not (tj := 75) (b := false) rfl (congrArg AV.bool hb9) rfl rfl ?_
                                  refine wo_valg (tj := 64) (.bool false) rfl (congrArg AV.bool hb5) rfl (pv_pick (t := false) (congrArg AV.bool hb9) rfl) ?_
                                  refine wo_back1 ?_
                                  refine wo_is [(0, (.str a)), (3, (.sl 4 (List.map rToken r1.1))), (6, (.int .i64 x3)), (7, (.int .i64 x1)), (8, (.int .i64 x2)), (62, (.bool ((a2.toNat : Int) != 10))), (63, (.bool x4)), (64, (.bool x4)), (65, (.str a)), (66, (.int .i64 x3)), (67, (.int .u8 (a2.toNat : Int))), (68, (.bool ((a2.toNat : Int) == 47))), (69, (.bool ((a2.toNat : Int) == 47))), (74, (.bool (((a2.toNat : Int) == 47) && (decide ((IntKind.wrap .i64 (x3 + 1)) < x2))))), (75, (.bool (((a2.toNat : Int) == 47) && (decide ((IntKind.wrap .i64 (x3 + 1)) < x2))))), (81, (.bool false))] (.cons rfl (.cons rfl (.cons rfl (.cons rfl (.cons rfl (.cons rfl (.cons rfl (.cons rfl (.cons rfl (.cons rfl (.cons rfl (.cons rfl (.cons rfl (.cons rfl (.cons rfl (.cons rfl .nil)))))))))))))))) ?_
                                  exact hJ4 false _ _ ⟨rfl, rfl⟩
                              · refine wo_valg (tj := 69) (.int .i64 x3) rfl (congrArg AV.bool hb7) rfl pv_move ?_
                                refine wo_valg (tj := 69) (.int .i64 (IntKind.wrap .i64 (x3 + 1))) rfl (congrArg AV.bool hb7) rfl (pv_bin rfl rfl rfl) ?_
                                refine wo_valg (tj := 69) (.int .i64 x2) rfl (congrArg AV.bool hb7) rfl pv_move ?_
                                refine wo_valg (tj := 69) (.bool (decide ((IntKind.wrap .i64 (x3 + 1)) < x2))) rfl (congrArg AV.bool hb7) rfl (pv_bin rfl rfl rfl) ?_
                                refine wo_valg (tj := 64) (.bool (decide ((IntKind.wrap .i64 (x3 + 1)) < x2))) rfl (congrArg AV.bool hb5) rfl (pv_pick (t := true) (congrArg AV.bool hb7) rfl) ?_
                                exact wo_is [(0, (.str a)), (3, (.sl 4 (List.map rToken r1.1))), (6, (.int .i64 x3)), (7, (.int .i64 x1)), (8, (.int .i64 x2)), (62, (.bool ((a2.toNat : Int) != 10))), (63, (.bool x4)), (64, (.bool x4)), (65, (.str a)), (66, (.int .i64 x3)), (67, (.int .u8 (a2.toNat : Int))), (68, (.bool ((a2.toNat : Int) == 47))), (69, (.bool ((a2.toNat : Int) == 47))), (74, (.bool (((a2.toNat : Int) == 47) && (decide ((IntKind.wrap .i64 (x3 + 1)) < x2)))))] (.cons rfl (.cons rfl (.cons rfl (.cons rfl (.cons rfl (.cons rfl (.cons rfl (.cons rfl (.cons rfl (.cons rfl (.cons rfl (.cons rfl (.cons rfl (.cons (and_t hb7) .nil)))))))))))))) hJ3
                              · refine wo_not (tj := 69) (b := false) rfl (congrArg AV.bool hb7) rfl rfl ?_
                                refine wo_not (tj := 69) (b := false) rfl (congrArg AV.bool hb7) rfl rfl ?_
                                refine wo_not (tj := 69) (b := false) rfl (congrArg AV.bool hb7) rfl rfl ?_
                                refine wo_not (tj := 69) (b := false) rfl (congrArg AV.bool hb7) rfl rfl ?_
                                refine wo_valg (tj := 64) (.bool false) rfl (congrArg AV.bool hb5) rfl (pv_pick (t := false) (congrArg AV.bool hb7) rfl) ?_
                                exact wo_is [(0, (.str a)), (3, (.sl 4 (List.map rToken r1.1))), (6, (.int .i64 x3)), (7, (.int .i64 x1)), (8, (.int .i64 x2)), (62, (.bool ((a2.toNat : Int) != 10))), (63, (.bool x4)), (64, (.bool x4)), (65, (.str a)), (66, (.int .i64 x3)), (67, (.int .u8 (a2.toNat : Int))), (68, (.bool ((a2.toNat : Int) == 47))), (69, (.bool ((a2.toNat : Int) == 47))), (74, (.bool (((a2.toNat : Int) == 47) && (decide ((IntKind.wrap .i64 (x3 + 1)) < x2)))))] (.cons rfl (.cons rfl (.cons rfl (.cons rfl (.cons rfl (.cons rfl (.cons rfl (.cons rfl (.cons rfl (.cons rfl (.cons rfl (.cons rfl (.cons rfl (.cons (and_f hb7) .nil)))))))))))))) hJ3
                          · refine wo_not (tj := 62) (b := false) rfl (congrArg AV.bool hb3) rfl rfl ?_
                            refine wo_not (tj := 62) (b := false) rfl (congrArg AV.bool hb3) rfl rfl ?_
                            refine wo_notu (tj := 64) rfl rfl rfl ?_
                            refine wo_notu (tj := 64) rfl rfl rfl ?_
                            refine wo_notu (tj := 64) rfl rfl rfl ?_
                            refine wo_notu (tj := 64) rfl rfl rfl ?_
                            refine wo_notu (tj := 64) rfl rfl rfl ?_
                            refine wo_notu (tj := 69) rfl rfl rfl ?_
                            refine wo_notu (tj := 69) rfl rfl rfl ?_
                            refine wo_notu (tj := 69) rfl rfl rfl ?_
                            refine wo_notu (tj := 69) rfl rfl rfl ?_
                            refine wo_notu (tj := 64) rfl rfl rfl ?_
                            refine wo_notu (tj := 64) rfl rfl rfl ?_
                            refine wo_notu (tj := 75) rfl rfl rfl ?_
                            refine wo_notu (tj := 75) rfl rfl rfl ?_
                            refine wo_notu (tj := 75) rfl rfl rfl ?_
                            refine wo_notu (tj := 75) rfl rfl rfl ?_
                            refine wo_notu (tj := 75) rfl rfl rfl ?_
                            refine wo_notu (tj := 64) rfl rfl rfl ?_
                            refine wo_not (tj := 62) (b := false) rfl (congrArg AV.bool hb3) rfl rfl ?_
                            refine wo_val (.bool false) rfl (pv_pick (t := false) (congrArg AV.bool hb3) rfl) ?_
                            refine wo_back1 ?_
                            refine wo_is [(0, (.str a)), (3, (.sl 4 (List.map rToken r1.1))), (6, (.int .i64 x3)), (7, (.int .i64 x1)), (8, (.int .i64 x2)), (83, (.bool false))] (.cons rfl (.cons rfl (.cons rfl (.cons rfl (.cons rfl (.cons rfl .nil)))))) ?_
                            exact hJ1 false _ _ ⟨rfl, rfl⟩
                        · refine wr_exit rfl ?_
                          refine wx_loop ?_
                          refine w_altl ?_
                          refine wr_is [(0, (.str a)), (3, (.sl 4 (List.map rToken r1.1))), (6, (.int .i64 x3)), (7, (.int .i64 x1)), (9, (.bool x4))] (.cons rfl (.cons rfl (.cons rfl (.cons rfl (.cons rfl .nil))))) ?_
                          refine hJ9 (x3, x4) _ _ ?_
                          exact ⟨rfl, rfl⟩
                · refine wo_not (tj := 47) (b := true) rfl (congrArg AV.bool hb1) rfl rfl ?_
                  refine wo_not (tj := 47) (b := true) rfl (congrArg AV.bool hb1) rfl rfl ?_
                  refine wo_not (tj := 47) (b := true) rfl (congrArg AV.bool hb1) rfl rfl ?_
                  refine wo_not (tj := 47) (b := true) rfl (congrArg AV.bool hb1) rfl rfl ?_
                  refine wo_val (.bool true) rfl (pv_pick (t := true) (congrArg AV.bool hb1) rfl) ?_
                  exact wo_is [(0, (.str a)), (3, (.sl 4 (List.map rToken r1.1))), (6, (.int .i64 x)), (7, (.int .i64 x1)), (8, (.int .i64 x2)), (52, (.bool ((decide (x2 < x)) || (decide (x2 > (a.length : Int))))))] (.cons rfl (.cons rfl (.cons rfl (.cons rfl (.cons rfl (.cons (or_t hb1) .nil)))))) hJ
                · refine wo_valg (tj := 47) (.int .i64 x2) rfl (congrArg AV.bool hb1) rfl pv_move ?_
                  refine wo_valg (tj := 47) (.str a) rfl (congrArg AV.bool hb1) rfl pv_move ?_
                  refine wo_valg (tj := 47) (.int .i64 (a.length : Int)) rfl (congrArg AV.bool hb1) rfl (pv_len (len_str ti9)) ?_
                  refine wo_valg (tj := 47) (.bool (decide (x2 > (a.length : Int)))) rfl (congrArg AV.bool hb1) rfl (pv_bin rfl rfl rfl) ?_
                  refine wo_val (.bool (decide (x2 > (a.length : Int)))) rfl (pv_pick (t := false) (congrArg AV.bool hb1) rfl) ?_
                  exact wo_is [(0, (.str a)), (3, (.sl 4 (List.map rToken r1.1))), (6, (.int .i64 x)), (7, (.int .i64 x1)), (8, (.int .i64 x2)), (52, (.bool ((decide (x2 < x)) || (decide (x2 > (a.length : Int))))))] (.cons rfl (.cons rfl (.cons rfl (.cons rfl (.cons rfl (.cons (or_f hb1) .nil)))))) hJ
              · refine wf_ite rfl (fun hc4 => ?_) (fun hc4 => ?_)
                · refine wr_region ?_
                  refine wo_val (.sl 4 (List.map rToken r1.1)) rfl pv_move ?_
                  refine wo_val (.int .i64 x1) rfl pv_move ?_
                  refine of_idx fun a1 hz hx1 => ?_
                  refine wo_val (.cp (rToken a1) 0) rfl (pv_ixa (ixa_sl ti23 ti35 rfl hz hx1)) ?_
                  refine wo_val (.cp (rToken a1) 3) rfl (pv_fa (fa_cp (c := 0) (off := 3) (i := 3) ti35 rfl ti3 rfl)) ?_
                  refine wo_val (.int .i64 a1.At) rfl (pv_load (ld_cp ti3 rfl)) ?_
                  refine wo_val (.int .i64 a1.At) rfl pv_assign ?_
                  refine wo_nil ?_
                  refine wr_is [(0, (.str a)), (3, (.sl 4 (List.map rToken r1.1))), (6, (.int .i64 x)), (7, (.int .i64 x1)), (8, (.int .i64 a1.At))] (.cons rfl (.cons rfl (.cons rfl (.cons rfl (.cons rfl .nil))))) ?_
                  refine hJ10 a1.At _ _ ?_
                  exact ⟨rfl, rfl⟩
                · refine wr_skip ?_
                  refine wr_is [(0, (.str a)), (3, (.sl 4 (List.map rToken r1.1))), (6, (.int .i64 x)), (7, (.int .i64 x1)), (8, (.int .i64 (a.length : Int)))] (.cons rfl (.cons rfl (.cons rfl (.cons rfl (.cons rfl .nil))))) ?_
                  refine hJ10 (a.length : Int) _ _ ?_
                  exact ⟨rfl, rfl⟩
            · refine wr_exit rfl ?_
              refine wx_loop ?_
              refine w_altl ?_
              refine wr_is [] .nil ?_
              refine hJ11 () _ _ ?_
              exact ⟨rfl, rfl⟩
  · refine wr_seq ?_
    refine wr_region ?_
    refine wo_val (.bool false) rfl pv_assign ?_
    refine wo_nil ?_
    exact wr_ret (a := false) (vs := [(.bool false)]) Tryd.func6 hI rfl (.same _)

theorem cp_law07_LexJoined (a : Str) (b : Str) : CP Tryd.prog 7 [(.str a), (.str b)] (law07_LexJoined a b) (fun (x : Bool) => (AV.bool x)) := by
  refine cp_intro (n := 114) 2 Tryd.func7 rfl (by decide) rfl rfl fun h0 ids hI => ?_
  refine wr_in (wr_mod (law07_LexJoined.eq_1 _ _) ?_)
  refine wr_seq ?_
  refine wr_region ?_
  refine wo_val (.bool false) rfl pv_assign ?_
  refine wo_nil ?_
  refine wr_seq ?_
  refine wr_seq ?_
  refine wr_region ?_
  refine of_call [] rfl rfl rfl rfl ((cp_law07_sane) _) (fun v _ => wu_pan Tryd.func7 hI) fun r _ => ?_
  refine wo_val (.bool (!r)) rfl (pv_un rfl) ?_
  refine wo_nil ?_
  refine wf_itebn rfl (fun hc => ?_) (fun hc => ?_)
  · refine wr_skip ?_
    refine wr_seq ?_
    refine wr_seq ?_
    refine wr_region ?_
    refine wo_val (.str a) rfl pv_move ?_
    refine wo_val (.int .i64 (a.length : Int)) rfl (pv_len (len_str ti9)) ?_
    refine wo_val (.str b) rfl pv_move ?_
    refine wo_val (.int .i64 (b.length : Int)) rfl (pv_len (len_str ti9)) ?_
    refine wo_val (.int .i64 (IntKind.wrap .i64 ((a.length : Int) + (b.length : Int)))) rfl (pv_bin rfl rfl rfl) ?_
    refine wo_val (.bool (decide ((IntKind.wrap .i64 ((a.length : Int) + (b.length : Int))) > 3000))) rfl (pv_bin rfl rfl rfl) ?_
    refine wo_nil ?_
    refine wf_ite rfl (fun hc1 => ?_) (fun hc1 => ?_)
    · refine wr_seq ?_
      refine wr_region ?_
      refine wo_val (.bool true) rfl pv_assign ?_
      refine wo_nil ?_
      exact wr_ret (a := true) (vs := [(.bool true)]) Tryd.func7 hI rfl (.same _)
    · refine wr_skip ?_
      refine wr_seq ?_
      refine wr_region ?_
      refine wo_val (.str a) rfl pv_move ?_
      refine of_call [(.str a)] rfl rfl rfl rfl ((cp_lex_Lex a) _) (fun v _ => wu_pan Tryd.func7 hI) fun r1 _ => ?_
      refine wo_val (.tup [(.sl 4 (List.map rToken r1.1)), (.int .i64 r1.2.1), (.int .i64 r1.2.2)]) rfl pv_move ?_
      refine wo_val (.sl 4 (List.map rToken r1.1)) rfl (pv_ext rfl) ?_
      refine wo_val (.int .i64 r1.2.1) rfl (pv_ext rfl) ?_
      refine wo_val (.int .i64 r1.2.2) rfl (pv_ext rfl) ?_
      refine wo_val (.sl 4 (List.map rToken r1.1)) rfl pv_assign ?_
      refine wo_val (.int .i64 r1.2.1) rfl pv_assign ?_
      refine wo_val (.int .i64 r1.2.2) rfl pv_assign ?_
      refine wo_nil ?_
      refine wr_seq ?_
      refine wr_region ?_
      refine wo_val (.str b) rfl pv_move ?_
      refine of_call [(.str b)] rfl rfl rfl rfl ((cp_lex_Lex b) _) (fun v _ => wu_pan Tryd.func7 hI) fun r2 _ => ?_
      refine wo_val (.tup [(.sl 4 (List.map rToken r2.1)), (.int .i64 r2.2.1), (.int .i64 r2.2.2)]) rfl pv_move ?_
      refine wo_val (.sl 4 (List.map rToken r2.1)) rfl (pv_ext rfl) ?_
      refine wo_val (.int .i64 r2.2.1) rfl (pv_ext rfl) ?_
      refine wo_val (.int .i64 r2.2.2) rfl (pv_ext rfl) ?_
      refine wo_val (.sl 4 (List.map rToken r2.1)) rfl pv_assign ?_
      refine wo_val (.int .i64 r2.2.1) rfl pv_assign ?_
      refine wo_val (.int .i64 r2.2.2) rfl pv_assign ?_
      refine wo_nil ?_
      refine wr_seq ?_
      refine wr_region ?_
      refine wo_val (.str a) rfl pv_move ?_
      refine of_need fun hl => ?_
      refine wo_val (.str (a ++ [10])) rfl (pv_bin rfl rfl (bin_cat hl)) ?_
      refine wo_val (.str b) rfl pv_move ?_
      refine of_need fun hl1 => ?_
      refine wo_val (.str ((a ++ [10]) ++ b)) rfl (pv_bin rfl rfl (bin_cat hl1)) ?_
      refine of_call [(.str ((a ++ [10]) ++ b))] rfl rfl rfl rfl ((cp_lex_Lex ((a ++ [10]) ++ b)) _) (fun v _ => wu_pan Tryd.func7 hI) fun r3 _ => ?_
      refine wo_val (.tup [(.sl 4 (List.map rToken r3.1)), (.int .i64 r3.2.1), (.int .i64 r3.2.2)]) rfl pv_move ?_
      refine wo_val (.sl 4 (List.map rToken r3.1)) rfl (pv_ext rfl) ?_
      refine wo_val (.int .i64 r3.2.1) rfl (pv_ext rfl) ?_
      refine wo_val (.int .i64 r3.2.2) rfl (pv_ext rfl) ?_
      refine wo_val (.sl 4 (List.map rToken r3.1)) rfl pv_assign ?_
      refine wo_val (.int .i64 r3.2.1) rfl pv_assign ?_
      refine wo_val (.int .i64 r3.2.2) rfl pv_assign ?_
      refine wo_nil ?_
      refine wr_seq ?_
      refine wr_block ?_
      refine wr_seq ?_
      refine wr_region ?_
      refine wo_val (.int .i64 r1.2.2) rfl pv_move ?_
      refine wo_val (.bool (r1.2.2 != 0)) rfl (pv_bin rfl rfl rfl) ?_
      refine wo_val (.bool (r1.2.2 != 0)) rfl pv_assign ?_
      refine wo_nil ?_
      refine wf_iteb rfl (fun hc2 => ?_) (fun hc2 => ?_)
      · refine wr_seq ?_
        refine wr_region ?_
        refine wo_val (.int .i64 r3.2.2) rfl pv_move ?_
        refine wo_val (.int .i64 r1.2.2) rfl pv_move ?_
        refine wo_val (.bool (r3.2.2 == r1.2.2)) rfl (pv_bin rfl rfl rfl) ?_
        refine wo_val (.bool (r3.2.2 == r1.2.2)) rfl pv_move ?_
        refine wo_meet 4 [(11, (.sl 4 (List.map rToken r3.1))), (56, (.bool ((r3.2.2 == r1.2.2) && (r3.2.1 == r1.2.1))))] ?_ fun hJ => wo_cases (r3.2.2 == r1.2.2) (fun hb1 => ?_) (fun hb1 => ?_)
        · refine wo_val (.bool ((r3.2.2 == r1.2.2) && (r3.2.1 == r1.2.1))) rfl pv_move ?_
          refine wo_meet 4 [(61, (.bool (((r3.2.2 == r1.2.2) && (r3.2.1 == r1.2.1)) && ((r3.1.length : Int) == 0))))] ?_ fun hJ1 => wo_cases ((r3.2.2 == r1.2.2) && (r3.2.1 == r1.2.1)) (fun hb3 => ?_) (fun hb3 => ?_)
          · refine wo_val (.bool (((r3.2.2 == r1.2.2) && (r3.2.1 == r1.2.1)) && ((r3.1.length : Int) == 0))) rfl pv_assign ?_
            refine wo_nil ?_
            exact wr_ret (a := (((r3.2.2 == r1.2.2) && (r3.2.1 == r1.2.1)) && ((r3.1.length : Int) == 0))) (vs := [(.bool (((r3.2.2 == r1.2.2) && (r3.2.1 == r1.2.1)) && ((r3.1.length : Int) == 0)))]) Tryd.func7 hI rfl (.same _)
          · refine wo_valg (tj := 57) (.sl 4 (List.map rToken r3.1)) rfl (congrArg AV.bool hb3) rfl pv_move ?_
            refine wo_valg (tj := 57) (.int .i64 (r3.1.length : Int)) rfl (congrArg AV.bool hb3) rfl (pv_len (len_sl ti23)) ?_
            refine wo_valg (tj := 57) (.bool ((r3.1.length : Int) == 0)) rfl (congrArg AV.bool hb3) rfl (pv_bin rfl rfl rfl) ?_
            refine wo_val (.bool ((r3.1.length : Int) == 0)) rfl (pv_pick (t := true) (congrArg AV.bool hb3) rfl) ?_
            exact wo_is [(61, (.bool (((r3.2.2 == r1.2.2) && (r3.2.1 == r1.2.1)) && ((r3.1.length : Int) == 0))))] (.cons (and_t hb3) .nil) hJ1
          · refine wo_not (tj := 57) (b := false) rfl (congrArg AV.bool hb3) rfl rfl ?_
            refine wo_not (tj := 57) (b := false) rfl (congrArg AV.bool hb3) rfl rfl ?_
            refine wo_not (tj := 57) (b := false) rfl (congrArg AV.bool hb3) rfl rfl ?_
            refine wo_val (.bool false) rfl (pv_pick (t := false) (congrArg AV.bool hb3) rfl) ?_
            exact wo_is [(61, (.bool (((r3.2.2 == r1.2.2) && (r3.2.1 == r1.2.1)) && ((r3.1.length : Int) == 0))))] (.cons (and_f hb3) .nil) hJ1
        · refine wo_valg (tj := 52) (.int .i64 r3.2.1) rfl (congrArg AV.bool hb1) rfl pv_move ?_
          refine wo_valg (tj := 52) (.int .i64 r1.2.1) rfl (congrArg AV.bool hb1) rfl pv_move ?_
          refine wo_valg (tj := 52) (.bool (r3.2.1 == r1.2.1)) rfl (congrArg AV.bool hb1) rfl (pv_bin rfl rfl rfl) ?_
          refine wo_val (.bool (r3.2.1 == r1.2.1)) rfl (pv_pick (t := true) (congrArg AV.bool hb1) rfl) ?_
          exact wo_is [(11, (.sl 4 (List.map rToken r3.1))), (56, (.bool ((r3.2.2 == r1.2.2) && (r3.2.1 == r1.2.1))))] (.cons rfl (.cons (and_t hb1) .nil)) hJ
        · refine wo_not (tj := 52) (b := false) rfl (congrArg AV.bool hb1) rfl rfl ?_
          refine wo_not (tj := 52) (b := false) rfl (congrArg AV.bool hb1) rfl rfl ?_
          refine wo_not (tj := 52) (b := false) rfl (congrArg AV.bool hb1) rfl rfl ?_
          refine wo_val (.bool false) rfl (pv_pick (t := false) (congrArg AV.bool hb1) rfl) ?_
          exact wo_is [(11, (.sl 4 (List.map rToken r3.1))), (56, (.bool ((r3.2.2 == r1.2.2) && (r3.2.1 == r1.2.1))))] (.cons rfl (.cons (and_f hb1) .nil)) hJ
      · refine wr_seq ?_
        refine wr_region ?_
        refine wo_val (.int .i64 r2.2.2) rfl pv_move ?_
        refine wo_val (.bool (r2.2.2 != 0)) rfl (pv_bin rfl rfl rfl) ?_
        refine wo_val (.bool (r2.2.2 != 0)) rfl pv_assign ?_
        refine wo_nil ?_
        refine wf_iteb rfl (fun hc3 => ?_) (fun hc3 => ?_)
        · refine wr_seq ?_
          refine wr_region ?_
          refine wo_val (.int .i64 r3.2.2) rfl pv_move ?_
          refine wo_val (.int .i64 r2.2.2) rfl pv_move ?_
          refine wo_val (.bool (r3.2.2 == r2.2.2)) rfl (pv_bin rfl rfl rfl) ?_
          refine wo_val (.bool (r3.2.2 == r2.2.2)) rfl pv_move ?_
          refine wo_meet 8 [(11, (.sl 4 (List.map rToken r3.1))), (76, (.bool ((r3.2.2 == r2.2.2) && (r3.2.1 == (IntKind.wrap .i64 ((IntKind.wrap .i64 (r2.2.1 + (a.length : Int))) + 1))))))] ?_ fun hJ2 => wo_cases (r3.2.2 == r2.2.2) (fun hb5 => ?_) (fun hb5 => ?_)
          · refine wo_val (.bool ((r3.2.2 == r2.2.2) && (r3.2.1 == (IntKind.wrap .i64 ((IntKind.wrap .i64 (r2.2.1 + (a.length : Int))) + 1))))) rfl pv_move ?_
            refine wo_meet 4 [(81, (.bool (((r3.2.2 == r2.2.2) && (r3.2.1 == (IntKind.wrap .i64 ((IntKind.wrap .i64 (r2.2.1 + (a.length : Int))) + 1)))) && ((r3.1.length : Int) == 0))))] ?_ fun hJ3 => wo_cases ((r3.2.2 == r2.2.2) && (r3.2.1 == (IntKind.wrap .i64 ((IntKind.wrap .i64 (r2.2.1 + (a.length : Int))) + 1)))) (fun hb7 => ?_) (fun hb7 => ?_)
            · refine wo_val (.bool (((r3.2.2 == r2.2.2) && (r3.2.1 == (IntKind.wrap .i64 ((IntKind.wrap .i64 (r2.2.1 + (a.length : Int))) + 1)))) && ((r3.1.length : Int) == 0))) rfl pv_assign ?_
              refine wo_nil ?_
              exact wr_ret (a := (((r3.2.2 == r2.2.2) && (r3.2.1 == (IntKind.wrap .i64 ((IntKind.wrap .i64 (r2.2.1 + (a.length : Int))) + 1)))) && ((r3.1.length : Int) == 0))) (vs := [(.bool (((r3.2.2 == r2.2.2) && (r3.2.1 == (IntKind.wrap .i64 ((IntKind.wrap .i64 (r2.2.1 + (a.length : Int))) + 1)))) && ((r3.1.length : Int) == 0)))]) Tryd.func7 hI rfl (.same _)
            · refine wo_valg (tj := 77) (.sl 4 (List.map rToken r3.1)) rfl (congrArg AV.bool hb7) rfl pv_move ?_
              refine wo_valg (tj := 77) (.int .i64 (r3.1.length : Int)) rfl (congrArg AV.bool hb7) rfl (pv_len (len_sl ti23)) ?_
              refine wo_valg (tj := 77) (.bool ((r3.1.length : Int) == 0)) rfl (congrArg AV.bool hb7) rfl (pv_bin rfl rfl rfl) ?_
              refine wo_val (.bool ((r3.1.length : Int) == 0)) rfl (pv_pick (t := true) (congrArg AV.bool hb7) rfl) ?_
              exact wo_is [(81, (.bool (((r3.2.2 == r2.2.2) && (r3.2.1 == (IntKind.wrap .i64 ((IntKind.wrap .i64 (r2.2.1 + (a.length : Int))) + 1)))) && ((r3.1.length : Int) == 0))))] (.cons (and_t hb7) .nil) hJ3
            · refine wo_not (tj := 77) (b := false) rfl (congrArg AV.bool hb7) rfl rfl ?_
              refine wo_not (tj := 77) (b := false) rfl (congrArg AV.bool hb7) rfl rfl ?_
              refine wo_not (tj := 77) (b := false) rfl (congrArg AV.bool hb7) rfl rfl ?_
              refine wo_val (.bool false) rfl (pv_pick (t := false) (congrArg AV.bool hb7) rfl) ?_
              exact wo_is [(81, (.bool (((r3.2.2 == r2.2.2) && (r3.2.1 == (IntKind.wrap .i64 ((IntKind.wrap .i64 (r2.2.1 + (a.length : Int))) + 1)))) && ((r3.1.length : Int) == 0))))] (.cons (and_f hb7) .nil) hJ3
          · refine wo_valg (tj := 68) (.int .i64 r3.2.1) rfl (congrArg AV.bool hb5) rfl pv_move ?_
            refine wo_valg (tj := 68) (.int .i64 r2.2.1) rfl (congrArg AV.bool hb5) rfl pv_move ?_
            refine wo_valg (tj := 68) (.str a) rfl (congrArg AV.bool hb5) rfl pv_move ?_
            refine wo_valg (tj := 68) (.int .i64 (a.length : Int)) rfl (congrArg AV.bool hb5) rfl (pv_len (len_str ti9)) ?_
            refine wo_valg (tj := 68) (.int .i64 (IntKind.wrap .i64 (r2.2.1 + (a.length : Int)))) rfl (congrArg AV.bool hb5) rfl (pv_bin rfl rfl rfl) ?_
            refine wo_valg (tj := 68) (.int .i64 (IntKind.wrap .i64 ((IntKind.wrap .i64 (r2.2.1 + (a.length : Int))) + 1))) rfl (congrArg AV.bool hb5) rfl (pv_bin rfl rfl rfl) ?_
            refine wo_valg (tj := 68) (.bool (r3.2.1 == (IntKind.wrap .i64 ((IntKind.wrap .i64 (r2.2.1 + (a.length : Int))) + 1)))) rfl (congrArg AV.bool hb5) rfl (pv_bin rfl rfl rfl) ?_
            refine wo_val (.bool (r3.2.1 == (IntKind.wrap .i64 ((IntKind.wrap .i64 (r2.2.1 + (a.length : Int))) + 1)))) rfl (pv_pick (t := true) (congrArg AV.bool hb5) rfl) ?_
            exact wo_is [(11, (.sl 4 (List.map rToken r3.1))), (76, (.bool ((r3.2.2 == r2.2.2) && (r3.2.1 == (IntKind.wrap .i64 ((IntKind.wrap .i64 (r2.2.1 + (a.length : Int))) + 1))))))] (.cons rfl (.cons (and_t hb5) .nil)) hJ2
          · refine wo_not (tj := 68) (b := false) rfl (congrArg AV.bool hb5) rfl rfl ?_
            refine wo_not (tj := 68) (b := false) rfl (congrArg AV.bool hb5) rfl rfl ?_
            refine wo_not (tj := 68) (b := false) rfl (congrArg AV.bool hb5) rfl rfl ?_
            refine wo_not (tj := 68) (b := false) rfl (congrArg AV.bool hb5) rfl rfl ?_
            refine wo_not (tj := 68) (b := false) rfl (congrArg AV.bool hb5) rfl rfl ?_
            refine wo_not (tj := 68) (b := false) rfl (congrArg AV.bool hb5) rfl rfl ?_
            refine wo_not (tj := 68) (b := false) rfl (congrArg AV.bool hb5) rfl rfl ?_
            refine wo_val (.bool false) rfl (pv_pick (t := false) (congrArg AV.bool hb5) rfl) ?_
            exact wo_is [(11, (.sl 4 (List.map rToken r3.1))), (76, (.bool ((r3.2.2 == r2.2.2) && (r3.2.1 == (IntKind.wrap .i64 ((IntKind.wrap .i64 (r2.2.1 + (a.length : Int))) + 1))))))] (.cons rfl (.cons (and_f hb5) .nil)) hJ2
        · refine wr_skip ?_
          refine wr_inBlock ?_
          refine wr_seq ?_
          refine wr_region ?_
          refine wo_bs0 rfl ti23 ti35 ?_
          refine wo_val (.sl 4 (List.map rToken r1.1)) rfl pv_move ?_
          refine of_need fun hl2 => ?_
          refine wo_append (e := rToken) (L := ([] : List Token)) (L2 := r1.1) (v := .emp) (g := 0) (st := 4) (j := 0) hI rfl rfl rfl rfl .nil rfl (src_sl rfl) ti23 ti23 rfl ti35 rfl rfl rfl (by simpa using hl2) fun v g vH => ?_
          refine wo_val v rfl pv_assign ?_
          refine wo_nil ?_
          refine wr_hp [(ownO v g 4 (List.map rToken r1.1)), none] rfl ?_
          refine wr_seq ?_
          refine wr_seq ?_
          refine wr_region ?_
          refine wo_val (.sl 4 (List.map rToken r2.1)) rfl pv_move ?_
          refine wo_val (.int .i64 (r2.1.length : Int)) rfl (pv_len (len_sl ti23)) ?_
          refine wo_val (.int .i64 0) rfl pv_move ?_
          refine wo_nil ?_
          refine wr_block ?_
          refine wr_is [(0, (.str a)), (11, (.sl 4 (List.map rToken r3.1))), (12, (.int .i64 r3.2.1)), (13, (.int .i64 r3.2.2)), (14, v), (85, (.sl 4 (List.map rToken r2.1))), (86, (.int .i64 (r2.1.length : Int))), (87, (.int .i64 0))] (.cons rfl (.cons rfl (.cons rfl (.cons rfl (.cons rfl (.cons rfl (.cons rfl (.cons rfl .nil)))))))) ?_
          refine wf_eachS' (P := Tryd.prog) r2.1 (fun _ a1 => fun all => law07_LexJoined_b1 a a1 all) (((fun all => (if ((r3.2.2 == 0) && (r3.2.1 == 0)) then (ref07_Equal r3.1 all).bind fun r4 =>
  R.ok r4 else R.ok false).bind (fun (b1 : Bool) => .ok b1))) : (List Token) → R Bool)
            (fun j => fun all => fun (fr : Nat → AV) (h : AHeap) => ∃ (v1 : AV), ∃ (g1 : Nat), OwnV v1 (ix ids 0) g1 all.length ∧ fr = frA [(0, (.str a)), (11, (.sl 4 (List.map rToken r3.1))), (12, (.int .i64 r3.2.1)), (13, (.int .i64 r3.2.2)), (14, v1), (85, (.sl 4 (List.map rToken r2.1))), (86, (.int .i64 (r2.1.length : Int))), (87, (.int .i64 (j : Int)))] ∧ h = hp h0 ids [(ownO v1 g1 4 (List.map rToken all)), none]) r1.1 ?_ ?_ ?_
          · exact ⟨v, g, vH, rfl, rfl⟩
          · rintro j a1 ha1 W hW all fr h ⟨v1, g1, vH1, rfl, rfl⟩
            refine wr_mod (m' := law07_LexJoined_b1 a a1 all) rfl (wr_mod (law07_LexJoined_b1.eq_1 _ _ _) ?_)
            refine wr_seq ?_
            refine wr_region ?_
            refine wo_val (.bool (decide ((j : Int) < (r2.1.length : Int)))) rfl (pv_bin rfl rfl rfl) ?_
            refine wo_nil ?_
            refine wr_seq ?_
            refine wr_lim (t := 85) (L := r2.1) rfl fun hlim => ?_
            refine wr_condT rfl (Int.ofNat_lt.2 (lt_of_get ha1)) ?_
            refine wr_skip ?_
            refine wr_seq ?_
            refine wr_block ?_
            refine wr_seq ?_
            refine wr_region ?_
            refine wo_val (.cp (rToken a1) 0) rfl (pv_ixa (ixa_nat ti23 ti35 rfl ha1)) ?_
            refine wo_val (.agg (rToken a1)) rfl (pv_load (ld_cp ti35 rfl)) ?_
            refine wo_alloc (j := 1) hI rfl rfl rfl rfl ti35 rfl fun g2 => ?_
            refine wo_store (st_ptr hI rfl rfl rfl rfl ti35 rfl rfl rfl rfl rfl) ?_
            refine wo_nil ?_
            refine wr_hp [(ownO v1 g1 4 (List.map rToken all)), (some (.rows g2 4 [(rToken a1)]))] rfl ?_
            refine wr_seq ?_
            refine wr_region ?_
            refine wo_val (.ptr (ix ids 1) g2 0 3) rfl (pv_fa (fa_ptr (c := 0) (off := 3) (i := 3) ti35 rfl ti3 rfl)) ?_
            refine wo_val (.int .i64 a1.At) rfl (pv_load (ld_ptr hI rfl rfl rfl ti3 rfl)) ?_
            refine wo_val (.str a) rfl pv_move ?_
            refine wo_val (.int .i64 (a.length : Int)) rfl (pv_len (len_str ti9)) ?_
            refine wo_val (.int .i64 (IntKind.wrap .i64 ((a.length : Int) + 1))) rfl (pv_bin rfl rfl rfl) ?_
            refine wo_val (.int .i64 (IntKind.wrap .i64 (a1.At + (IntKind.wrap .i64 ((a.length : Int) + 1))))) rfl (pv_bin rfl rfl rfl) ?_
            refine wo_val (.ptr (ix ids 1) g2 0 3) rfl (pv_fa (fa_ptr (c := 0) (off := 3) (i := 3) ti35 rfl ti3 rfl)) ?_
            refine wo_store (st_ptr hI rfl rfl rfl rfl ti3 rfl rfl rfl rfl rfl) ?_
            refine wo_nil ?_
            refine wr_hp [(ownO v1 g1 4 (List.map rToken all)), (some (.rows g2 4 [[(.int .i64 a1.Kind), (.str a1.Text), (.int .i64 a1.N), (.int .i64 (IntKind.wrap .i64 (a1.At + (IntKind.wrap .i64 ((a.length : Int) + 1)))))]]))] rfl ?_
            refine wr_region ?_
            refine wo_val v1 rfl pv_move ?_
            refine wo_val (.agg [(.int .i64 a1.Kind), (.str a1.Text), (.int .i64 a1.N), (.int .i64 (IntKind.wrap .i64 (a1.At + (IntKind.wrap .i64 ((a.length : Int) + 1)))))]) rfl (pv_load (ld_ptr hI rfl rfl rfl ti35 rfl)) ?_
            refine wo_bsC (e := rToken) (L := [({ Kind := a1.Kind, Text := a1.Text, N := a1.N, At := (IntKind.wrap .i64 (a1.At + (IntKind.wrap .i64 ((a.length : Int) + 1)))) } : Token)]) (st := 4) (rows := [[(.int .i64 a1.Kind), (.str a1.Text), (.int .i64 a1.N), (.int .i64 (IntKind.wrap .i64 (a1.At + (IntKind.wrap .i64 ((a.length : Int) + 1)))))]]) rfl ti23 ti35 rfl rfl rfl rfl rfl (.cons (.cons (.same _) (.cons (.same _) (.cons (.same _) (.cons (.same _) .nil)))) .nil) (fun x => ok_Token x) rfl rfl ?_
            refine of_need fun hl3 => ?_
            refine wo_append (e := rToken) (L := all) (L2 := [({ Kind := a1.Kind, Text := a1.Text, N := a1.N, At := (IntKind.wrap .i64 (a1.At + (IntKind.wrap .i64 ((a.length : Int) + 1)))) } : Token)]) (v := v1) (g := g1) (st := 4) (j := 0) hI rfl rfl rfl rfl vH1 rfl (src_sl rfl) ti23 ti23 rfl ti35 rfl rfl rfl hl3 fun v2 g3 vH2 => ?_
            refine wo_val v2 rfl pv_assign ?_
            refine wo_nil ?_
            refine wr_hp [(ownO v2 g3 4 (List.map rToken (all ++ [({ Kind := a1.Kind, Text := a1.Text, N := a1.N, At := (IntKind.wrap .i64 (a1.At + (IntKind.wrap .i64 ((a.length : Int) + 1)))) } : Token)]))), (some (.rows g2 4 [[(.int .i64 a1.Kind), (.str a1.Text), (.int .i64 a1.N), (.int .i64 (IntKind.wrap .i64 (a1.At + (IntKind.wrap .i64 ((a.length : Int) + 1)))))]]))] rfl ?_
            refine wr_inBlock ?_
            refine wr_region ?_
            refine wo_val (.int .i64 (IntKind.wrap .i64 ((j : Int) + 1))) rfl (pv_bin rfl rfl rfl) ?_
            refine wo_val (.int .i64 (IntKind.wrap .i64 ((j : Int) + 1))) rfl pv_move ?_
            refine wo_nil ?_
            refine wr_drop [(ownO v2 g3 4 (List.map rToken (all ++ [({ Kind := a1.Kind, Text := a1.Text, N := a1.N, At := (IntKind.wrap .i64 (a1.At + (IntKind.wrap .i64 ((a.length : Int) + 1)))) } : Token)]))), none] hI rfl (.keep (.drop .nil)) ?_
            refine wr_is [(0, (.str a)), (11, (.sl 4 (List.map rToken r3.1))), (12, (.int .i64 r3.2.1)), (13, (.int .i64 r3.2.2)), (14, v2), (85, (.sl 4 (List.map rToken r2.1))), (86, (.int .i64 (r2.1.length : Int))), (87, (.int .i64 ((j + 1 : Nat) : Int)))] (.cons rfl (.cons rfl (.cons rfl (.cons rfl (.cons rfl (.cons rfl (.cons rfl (.cons (inc_ok (lt_of_get ha1) hlim) .nil)))))))) ?_
            refine wb_S ?_
            refine hW (all ++ [({ Kind := a1.Kind, Text := a1.Text, N := a1.N, At := (IntKind.wrap .i64 (a1.At + (IntKind.wrap .i64 ((a.length : Int) + 1)))) } : Token)]) _ _ ?_
            exact ⟨v2, g3, vH2, rfl, rfl⟩
          · rintro all fr h ⟨v1, g1, vH1, rfl, rfl⟩
            refine wr_seq ?_
            refine wr_region ?_
            refine wo_val (.bool (decide ((r2.1.length : Int) < (r2.1.length : Int)))) rfl (pv_bin rfl rfl rfl) ?_
            refine wo_nil ?_
            refine wr_seq ?_
            refine wr_condF rfl (Int.lt_irrefl _) ?_
            refine wr_exit rfl ?_
            refine wr_seq ?_
            refine wr_region ?_
            refine wo_val (.int .i64 r3.2.2) rfl pv_move ?_
            refine wo_val (.bool (r3.2.2 == 0)) rfl (pv_bin rfl rfl rfl) ?_
            refine wo_val (.bool (r3.2.2 == 0)) rfl pv_move ?_
            refine wo_meet 3 [(11, (.sl 4 (List.map rToken r3.1))), (14, v1), (108, (.bool ((r3.2.2 == 0) && (r3.2.1 == 0))))] ?_ fun hJ4 => wo_cases (r3.2.2 == 0) (fun hb9 => ?_) (fun hb9 => ?_)
            · refine wo_val (.bool ((r3.2.2 == 0) && (r3.2.1 == 0))) rfl pv_move ?_
              refine wo_join 4 ((fun (b1 : Bool) => .ok b1) : Bool → R Bool) (fun (b1 : Bool) (fr : Nat → AV) (h : AHeap) => fr = frA [(113, (.bool b1))] ∧ h = hp h0 ids [(ownO v1 g1 4 (List.map rToken all)), none]) ?_ fun hJ5 => of_if1 (fun hb11 => ?_) (fun hb11 => ?_)
              · rintro b1 fr h ⟨rfl, rfl⟩
                refine wo_val (.bool b1) rfl pv_assign ?_
                refine wo_nil ?_
                exact wr_ret (a := b1) (vs := [(.bool b1)]) Tryd.func7 hI rfl (.same _)
              · refine wo_valg (tj := 109) (.sl 4 (List.map rToken r3.1)) rfl (congrArg AV.bool hb11) rfl pv_move ?_
                refine wo_valg (tj := 109) v1 rfl (congrArg AV.bool hb11) rfl pv_move ?_
                refine of_call [(.sl 4 (List.map rToken r3.1)), v1] rfl (wanted_yes (tj := 109) rfl (congrArg AV.bool hb11)) rfl rfl (CP.lend (cp_ref07_Equal r3.1 all) (LF.lfz (.cons (.same _) (.cons (own_fz vH1 (hI.at rfl rfl) rfl (fun x => ok_Token x)) .nil))) (fun _ _ => (.bool _))) (fun v _ => wu_pan Tryd.func7 hI) fun r4 _ => ?_
                refine wo_val (.bool r4) rfl (pv_pick (t := true) (congrArg AV.bool hb11) rfl) ?_
                refine wo_back1 ?_
                refine wo_is [(113, (.bool r4))] (.cons rfl .nil) ?_
                exact hJ5 r4 _ _ ⟨rfl, rfl⟩
              · refine wo_not (tj := 109) (b := false) rfl (congrArg AV.bool hb11) rfl rfl ?_
                refine wo_not (tj := 109) (b := false) rfl (congrArg AV.bool hb11) rfl rfl ?_
                refine wo_not (tj := 109) (b := false) rfl (congrArg AV.bool hb11) rfl rfl ?_
                refine wo_val (.bool false) rfl (pv_pick (t := false) (congrArg AV.bool hb11) rfl) ?_
                refine wo_back1 ?_
                refine wo_is [(113, (.bool false))] (.cons rfl .nil) ?_
                exact hJ5 false _ _ ⟨rfl, rfl⟩
            · refine wo_valg (tj := 105) (.int .i64 r3.2.1) rfl (congrArg AV.bool hb9) rfl pv_move ?_
              refine wo_valg (tj := 105) (.bool (r3.2.1 == 0)) rfl (congrArg AV.bool hb9) rfl (pv_bin rfl rfl rfl) ?_
              refine wo_val (.bool (r3.2.1 == 0)) rfl (pv_pick (t := true) (congrArg AV.bool hb9) rfl) ?_
              exact wo_is [(11, (.sl 4 (List.map rToken r3.1))), (14, v1), (108, (.bool ((r3.2.2 == 0) && (r3.2.1 == 0))))] (.cons rfl (.cons rfl (.cons (and_t hb9) .nil))) hJ4
            · refine wo_not (tj := 105) (b := false) rfl (congrArg AV.bool hb9) rfl rfl ?_
              refine wo_not (tj := 105) (b := false) rfl (congrArg AV.bool hb9) rfl rfl ?_
              refine wo_val (.bool false) rfl (pv_pick (t := false) (congrArg AV.bool hb9) rfl) ?_
              exact wo_is [(11, (.sl 4 (List.map rToken r3.1))), (14, v1), (108, (.bool ((r3.2.2 == 0) && (r3.2.1 == 0))))] (.cons rfl (.cons rfl (.cons (and_f hb9) .nil))) hJ4
  · refine wr_seq ?_
    refine wr_region ?_
    refine wo_val (.bool false) rfl pv_assign ?_
    refine wo_nil ?_
    exact wr_ret (a := false) (vs := [(.bool false)]) Tryd.func7 hI rfl (.same _)

theorem cp_law07_LexSpaces (l : (List Token)) (turns : (List Int)) (note : Str) : CP Tryd.prog 8 [(.sl 4 (List.map rToken l)), (.sl 1 (List.map (rI .u8) turns)), (.str note)] (law07_LexSpaces l turns note) (fun (x : Bool) => (AV.bool x)) := by
  refine cp_intro (n := 113) 1 Tryd.func8 rfl (by decide) rfl rfl fun h0 ids hI => ?_
  refine wr_in (wr_mod (law07_LexSpaces.eq_1 _ _ _) ?_)
  refine wr_seq ?_
  refine wr_region ?_
  refine wo_val (.bool false) rfl pv_assign ?_
  refine wo_nil ?_
  refine wr_seq ?_
  refine wr_seq ?_
  refine wr_region ?_
  refine of_call [] rfl rfl rfl rfl ((cp_law07_sane) _) (fun v _ => wu_pan Tryd.func8 hI) fun r _ => ?_
  refine wo_val (.bool (!r)) rfl (pv_un rfl) ?_
  refine wo_nil ?_
  refine wf_itebn rfl (fun hc => ?_) (fun hc => ?_)
  · refine wr_skip ?_
    refine wr_seq ?_
    refine wr_seq ?_
    refine wr_region ?_
    refine wo_val (.sl 4 (List.map rToken l)) rfl pv_move ?_
    refine of_call [(.sl 4 (List.map rToken l))] rfl rfl rfl rfl ((cp_ref07_Few l) _) (fun v _ => wu_pan Tryd.func8 hI) fun r1 _ => ?_
    refine wo_val (.bool (!r1)) rfl (pv_un rfl) ?_
    refine wo_val (.bool (!r1)) rfl pv_move ?_
    refine wo_meet 4 [(0, (.sl 4 (List.map rToken l))), (1, (.sl 1 (List.map (rI .u8) turns))), (2, (.str note)), (30, (.bool ((!r1) || (decide ((note.length : Int) > 100)))))] ?_ fun hJ => wo_cases (!r1) (fun hb1 => ?_) (fun hb1 => ?_)
    · refine wo_nil ?_
      refine wf_iteb rfl (fun hc1 => ?_) (fun hc1 => ?_)
      · refine wr_seq ?_
        refine wr_region ?_
        refine wo_val (.bool true) rfl pv_assign ?_
        refine wo_nil ?_
        exact wr_ret (a := true) (vs := [(.bool true)]) Tryd.func8 hI rfl (.same _)
      · refine wr_skip ?_
        refine wr_seq ?_
        refine wr_region ?_
        refine wo_val (.str []) rfl pv_assign ?_
        refine wo_nil ?_
        refine wr_seq ?_
        refine wr_seq ?_
        refine wr_region ?_
        refine wo_val (.int .i64 0) rfl pv_assign ?_
        refine wo_nil ?_
        refine wr_block ?_
        refine wr_need fun hlim => ?_
        refine wr_is [(0, (.sl 4 (List.map rToken l))), (1, (.sl 1 (List.map (rI .u8) turns))), (2, (.str note)), (7, (.str [])), (8, (.int .i64 0))] (.cons rfl (.cons rfl (.cons rfl (.cons rfl (.cons rfl .nil))))) ?_
        refine wf_eachS' (P := Tryd.prog) note (fun j a => fun words => law07_LexSpaces_b1 note j a words) (((fun words => if [47, 47].length + words.length ≤ 9223372036854775807 then if ([47, 47] ++ words).length + [10].length ≤ 9223372036854775807 then (each (fun j1 a1 => fun s => law07_LexSpaces_b2 l turns words j1 a1 s) 0 l [10]).bind (alt (fun s => (lex_Lex s).bind fun r4 =>
  (if ((r4.2.2 == 0) && (r4.2.1 == 0)) then (lex_Same l r4.1).bind fun r5 =>
  R.ok r5 else R.ok false).bind (fun (b : Bool) => .ok b)) (fun r => .ok r)) else .bad else .bad)) : Str → R Bool)
          (fun j => fun words => fun (fr : Nat → AV) (h : AHeap) => fr = frA [(0, (.sl 4 (List.map rToken l))), (1, (.sl 1 (List.map (rI .u8) turns))), (2, (.str note)), (7, (.str words)), (8, (.int .i64 (j : Int)))] ∧ h = hp h0 ids [none]) [] ?_ ?_ ?_
        · exact ⟨rfl, rfl⟩
        · rintro j a ha W hW words fr h ⟨rfl, rfl⟩
          refine wr_mod (m' := law07_LexSpaces_b1 note j a words) rfl (wr_mod (law07_LexSpaces_b1.eq_1 _ _ _ _) ?_)
          refine wr_seq ?_
          refine wr_seq ?_
          refine wr_region ?_
          refine wo_val (.int .i64 (j : Int)) rfl pv_move ?_
          refine wo_val (.str note) rfl pv_move ?_
          refine wo_val (.int .i64 (note.length : Int)) rfl (pv_len (len_str ti9)) ?_
          refine wo_val (.bool (decide ((j : Int) < (note.length : Int)))) rfl (pv_bin rfl rfl rfl) ?_
          refine wo_nil ?_
          refine wr_condT rfl (Int.ofNat_lt.2 (lt_of_get ha)) ?_
          refine wr_skip ?_
          refine wr_seq ?_
          refine wr_block ?_
          refine wr_seq ?_
          refine wr_region ?_
          refine wo_val (.str note) rfl pv_move ?_
          refine wo_val (.int .i64 (j : Int)) rfl pv_move ?_
          refine wo_val (.int .u8 (a.toNat : Int)) rfl (pv_ix (ix_strn ti9 ha)) ?_
          refine wo_val (.bool ((a.toNat : Int) != 10)) rfl (pv_bin rfl rfl rfl) ?_
          refine wo_nil ?_
          refine wf_iteb rfl (fun hc2 => ?_) (fun hc2 => ?_)
          · refine wr_region ?_
            refine wo_val (.str words) rfl pv_move ?_
            refine wo_val (.str note) rfl pv_move ?_
            refine wo_val (.int .i64 (j : Int)) rfl pv_move ?_
            refine wo_val (.int .i64 (j : Int)) rfl pv_move ?_
            refine wo_val (.int .i64 (IntKind.wrap .i64 ((j : Int) + 1))) rfl (pv_bin rfl rfl rfl) ?_
            refine of_need fun hs => ?_
            refine wo_val (.str (cut note (j : Int) (IntKind.wrap .i64 ((j : Int) + 1)))) rfl (pv_slice (sl_str ti9 hs)) ?_
            refine of_need fun hl => ?_
            refine wo_val (.str (words ++ (cut note (j : Int) (IntKind.wrap .i64 ((j : Int) + 1))))) rfl (pv_bin rfl rfl (bin_cat hl)) ?_
            refine wo_val (.str (words ++ (cut note (j : Int) (IntKind.wrap .i64 ((j : Int) + 1))))) rfl pv_assign ?_
            refine wo_nil ?_
            refine wr_inBlock ?_
            refine wr_region ?_
            refine wo_val (.int .i64 (j : Int)) rfl pv_move ?_
            refine wo_val (.int .i64 (IntKind.wrap .i64 ((j : Int) + 1))) rfl (pv_bin rfl rfl rfl) ?_
            refine wo_val (.int .i64 (IntKind.wrap .i64 ((j : Int) + 1))) rfl pv_assign ?_
            refine wo_nil ?_
            refine wr_is [(0, (.sl 4 (List.map rToken l))), (1, (.sl 1 (List.map (rI .u8) turns))), (2, (.str note)), (7, (.str (words ++ (cut note (j : Int) (IntKind.wrap .i64 ((j : Int) + 1)))))), (8, (.int .i64 ((j + 1 : Nat) : Int)))] (.cons rfl (.cons rfl (.cons rfl (.cons rfl (.cons (inc_ok (lt_of_get ha) hlim) .nil))))) ?_
            refine wb_S ?_
            refine hW (words ++ (cut note (j : Int) (IntKind.wrap .i64 ((j : Int) + 1)))) _ _ ?_
            exact ⟨rfl, rfl⟩
          · refine wr_skip ?_
            refine wr_inBlock ?_
            refine wr_region ?_
            refine wo_val (.int .i64 (j : Int)) rfl pv_move ?_
            refine wo_val (.int .i64 (IntKind.wrap .i64 ((j : Int) + 1))) rfl (pv_bin rfl rfl rfl) ?_
            refine wo_val (.int .i64 (IntKind.wrap .i64 ((j : Int) + 1))) rfl pv_assign ?_
            refine wo_nil ?_
            refine wr_is [(0, (.sl 4 (List.map rToken l))), (1, (.sl 1 (List.map (rI .u8) turns))), (2, (.str note)), (7, (.str words)), (8, (.int .i64 ((j + 1 : Nat) : Int)))] (.cons rfl (.cons rfl (.cons rfl (.cons rfl (.cons (inc_ok (lt_of_get ha) hlim) .nil))))) ?_
            refine wb_S ?_
            refine hW words _ _ ?_
            exact ⟨rfl, rfl⟩
        · rintro words fr h ⟨rfl, rfl⟩
          refine wr_seq ?_
          refine wr_seq ?_
          refine wr_region ?_
          refine wo_val (.int .i64 (note.length : Int)) rfl pv_move ?_
          refine wo_val (.str note) rfl pv_move ?_
          refine wo_val (.int .i64 (note.length : Int)) rfl (pv_len (len_str ti9)) ?_
          refine wo_val (.bool (decide ((note.length : Int) < (note.length : Int)))) rfl (pv_bin rfl rfl rfl) ?_
          refine wo_nil ?_
          refine wr_condF rfl (Int.lt_irrefl _) ?_
          refine wr_exit rfl ?_
          refine wr_seq ?_
          refine wr_region ?_
          refine wo_val (.str words) rfl pv_move ?_
          refine of_need fun hl1 => ?_
          refine wo_val (.str ([47, 47] ++ words)) rfl (pv_bin rfl rfl (bin_cat hl1)) ?_
          refine of_need fun hl2 => ?_
          refine wo_val (.str (([47, 47] ++ words) ++ [10])) rfl (pv_bin rfl rfl (bin_cat hl2)) ?_
          refine wo_bsC (e := rS) (L := [[32], [9], [10], [13, 10], [32, 32], (([47, 47] ++ words) ++ [10]), [32, 47, 47, 32, 10], [10, 47, 47, 10]]) (st := 1) (rows := [[(.str [32])], [(.str [9])], [(.str [10])], [(.str [13, 10])], [(.str [32, 32])], [(.str (([47, 47] ++ words) ++ [10]))], [(.str [32, 47, 47, 32, 10])], [(.str [10, 47, 47, 10])]]) rfl ti40 ti9 rfl rfl rfl rfl rfl (.cons (RowSim.refl _) (.cons (RowSim.refl _) (.cons (RowSim.refl _) (.cons (RowSim.refl _) (.cons (RowSim.refl _) (.cons (RowSim.refl _) (.cons (RowSim.refl _) (.cons (RowSim.refl _) .nil)))))))) (fun x => ok_S x) rfl rfl ?_
          refine wo_val (.sl 1 (List.map rS [[32], [9], [10], [13, 10], [32, 32], (([47, 47] ++ words) ++ [10]), [32, 47, 47, 32, 10], [10, 47, 47, 10]])) rfl pv_assign ?_
          refine wo_nil ?_
          refine wr_seq ?_
          refine wr_region ?_
          refine wo_val (.str [10]) rfl pv_assign ?_
          refine wo_nil ?_
          refine wr_seq ?_
          refine wr_seq ?_
          refine wr_region ?_
          refine wo_val (.sl 4 (List.map rToken l)) rfl pv_move ?_
          refine wo_val (.int .i64 (l.length : Int)) rfl (pv_len (len_sl ti23)) ?_
          refine wo_val (.int .i64 0) rfl pv_move ?_
          refine wo_nil ?_
          refine wr_block ?_
          refine wr_is [(0, (.sl 4 (List.map rToken l))), (1, (.sl 1 (List.map (rI .u8) turns))), (9, (.sl 1 (List.map rS [[32], [9], [10], [13, 10], [32, 32], (([47, 47] ++ words) ++ [10]), [32, 47, 47, 32, 10], [10, 47, 47, 10]]))), (10, (.str [10])), (52, (.sl 4 (List.map rToken l))), (53, (.int .i64 (l.length : Int))), (54, (.int .i64 0))] (.cons rfl (.cons rfl (.cons rfl (.cons rfl (.cons rfl (.cons rfl (.cons rfl .nil))))))) ?_
          refine wf_each' (P := Tryd.prog) l (fun j1 a1 => fun s => law07_LexSpaces_b2 l turns words j1 a1 s) ((alt (fun s => (lex_Lex s).bind fun r4 =>
  (if ((r4.2.2 == 0) && (r4.2.1 == 0)) then (lex_Same l r4.1).bind fun r5 =>
  R.ok r5 else R.ok false).bind (fun (b : Bool) => .ok b)) (fun r => .ok r)) : (Str ⊕ Bool) → R Bool)
            (fun j1 => fun s => fun (fr : Nat → AV) (h : AHeap) => fr = frA [(0, (.sl 4 (List.map rToken l))), (1, (.sl 1 (List.map (rI .u8) turns))), (9, (.sl 1 (List.map rS [[32], [9], [10], [13, 10], [32, 32], (([47, 47] ++ words) ++ [10]), [32, 47, 47, 32, 10], [10, 47, 47, 10]]))), (10, (.str s)), (52, (.sl 4 (List.map rToken l))), (53, (.int .i64 (l.length : Int))), (54, (.int .i64 (j1 : Int)))] ∧ h = hp h0 ids [none]) [10] ?_ ?_ ?_
          · exact ⟨rfl, rfl⟩
          · rintro j1 a1 ha1 W hW1 s fr h ⟨rfl, rfl⟩
            refine wr_mod (m' := law07_LexSpaces_b2 l turns words j1 a1 s) rfl (wr_mod (law07_LexSpaces_b2.eq_1 _ _ _ _ _ _) ?_)
            refine wr_seq ?_
            refine wr_region ?_
            refine wo_val (.bool (decide ((j1 : Int) < (l.length : Int)))) rfl (pv_bin rfl rfl rfl) ?_
            refine wo_nil ?_
            refine wr_seq ?_
            refine wr_lim (t := 0) (L := l) rfl fun hlim1 => ?_
            refine wr_condT rfl (Int.ofNat_lt.2 (lt_of_get ha1)) ?_
            refine wr_skip ?_
            refine wr_seq ?_
            refine wr_block ?_
            refine wr_seq ?_
            refine wr_region ?_
            refine wo_val (.int .i64 (j1 : Int)) rfl pv_move ?_
            refine wo_val (.cp (rToken a1) 0) rfl (pv_ixa (ixa_nat ti23 ti35 rfl ha1)) ?_
            refine wo_val (.agg (rToken a1)) rfl (pv_load (ld_cp ti35 rfl)) ?_
            refine wo_alloc (j := 0) hI rfl rfl rfl rfl ti35 rfl fun g => ?_
            refine wo_val (.int .i64 (j1 : Int)) rfl pv_assign ?_
            refine wo_store (st_ptr hI rfl rfl rfl rfl ti35 rfl rfl rfl rfl rfl) ?_
            refine wo_nil ?_
            refine wr_hp [(some (.rows g 4 [(rToken a1)]))] rfl ?_
            refine wr_seq ?_
            refine wr_region ?_
            refine wo_val (.agg (rToken a1)) rfl (pv_load (ld_ptr hI rfl rfl rfl ti35 rfl)) ?_
            refine wo_bsC (e := rToken) (L := [a1]) (st := 4) (rows := [[(.int .i64 a1.Kind), (.str a1.Text), (.int .i64 a1.N), (.int .i64 a1.At)]]) rfl ti23 ti35 rfl rfl rfl rfl rfl (.cons (RowSim.refl _) .nil) (fun x => ok_Token x) rfl rfl ?_
            refine of_call [(.sl 4 (List.map rToken [a1]))] rfl rfl rfl rfl ((cp_lex_Text [a1]) _) (fun v _ => wu_pan Tryd.func8 hI) fun r2 _ => ?_
            refine wo_val (.tup [(.str r2.1), (.int .i64 r2.2)]) rfl pv_move ?_
            refine wo_val (.str r2.1) rfl (pv_ext rfl) ?_
            refine wo_val (.int .i64 r2.2) rfl (pv_ext rfl) ?_
            refine wo_val (.str r2.1) rfl pv_assign ?_
            refine wo_val (.int .i64 r2.2) rfl pv_assign ?_
            refine wo_nil ?_
            refine wr_seq ?_
            refine wr_seq ?_
            refine wr_region ?_
            refine wo_val (.int .i64 r2.2) rfl pv_move ?_
            refine wo_val (.bool (r2.2 != 0)) rfl (pv_bin rfl rfl rfl) ?_
            refine wo_nil ?_
            refine wf_iteb rfl (fun hc3 => ?_) (fun hc3 => ?_)
            · refine wr_seq ?_
              refine wr_region ?_
              refine wo_val (.sl 4 (List.map rToken l)) rfl pv_move ?_
              refine of_call [(.sl 4 (List.map rToken l))] rfl rfl rfl rfl ((cp_lex_Text l) _) (fun v _ => wu_pan Tryd.func8 hI) fun r3 _ => ?_
              refine wo_val (.tup [(.str r3.1), (.int .i64 r3.2)]) rfl pv_move ?_
              refine wo_val (.str r3.1) rfl (pv_ext rfl) ?_
              refine wo_val (.int .i64 r3.2) rfl (pv_ext rfl) ?_
              refine wo_val (.str r3.1) rfl pv_assign ?_
              refine wo_val (.int .i64 r3.2) rfl pv_assign ?_
              refine wo_nil ?_
              refine wr_seq ?_
              refine wr_region ?_
              refine wo_val (.int .i64 r3.2) rfl pv_move ?_
              refine wo_val (.bool (r3.2 == 70)) rfl (pv_bin rfl rfl rfl) ?_
              refine wo_val (.bool (r3.2 == 70)) rfl pv_assign ?_
              refine wo_nil ?_
              refine wx_each ?_
              refine w_altr ?_
              exact wr_ret (a := (r3.2 == 70)) (vs := [(.bool (r3.2 == 70))]) Tryd.func8 hI rfl (.same _)
            · refine wr_skip ?_
              refine wr_seq ?_
              refine wr_region ?_
              refine wo_val (.str [32]) rfl pv_assign ?_
              refine wo_nil ?_
              refine wr_seq ?_
              refine wr_seq ?_
              refine wr_region ?_
              refine wo_val (.int .i64 (j1 : Int)) rfl pv_move ?_
              refine wo_val (.sl 1 (List.map (rI .u8) turns)) rfl pv_move ?_
              refine wo_val (.int .i64 (turns.length : Int)) rfl (pv_len (len_sl ti39)) ?_
              refine wo_val (.bool (decide ((j1 : Int) < (turns.length : Int)))) rfl (pv_bin rfl rfl rfl) ?_
              refine wo_nil ?_
              refine wf_join (fun gap => law07_LexSpaces_j1 s r2 gap) (fun gap => fun (fr : Nat → AV) (h : AHeap) => fr = frA [(0, (.sl 4 (List.map rToken l))), (1, (.sl 1 (List.map (rI .u8) turns))), (9, (.sl 1 (List.map rS [[32], [9], [10], [13, 10], [32, 32], (([47, 47] ++ words) ++ [10]), [32, 47, 47, 32, 10], [10, 47, 47, 10]]))), (10, (.str s)), (13, (.str r2.1)), (17, (.str gap)), (52, (.sl 4 (List.map rToken l))), (53, (.int .i64 (l.length : Int))), (54, (.int .i64 (j1 : Int)))] ∧ h = hp h0 ids [none]) ?_ fun hJ1 => ?_
              · rintro gap fr h ⟨rfl, rfl⟩
                refine wr_mod (law07_LexSpaces_j1.eq_1 _ _ _) ?_
                refine wr_region ?_
                refine wo_val (.str s) rfl pv_move ?_
                refine wo_val (.str r2.1) rfl pv_move ?_
                refine of_need fun hl3 => ?_
                refine wo_val (.str (r2.1 ++ [32])) rfl (pv_bin rfl rfl (bin_cat hl3)) ?_
                refine wo_val (.str gap) rfl pv_move ?_
                refine of_need fun hl4 => ?_
                refine wo_val (.str ((r2.1 ++ [32]) ++ gap)) rfl (pv_bin rfl rfl (bin_cat hl4)) ?_
                refine of_need fun hl5 => ?_
                refine wo_val (.str (s ++ ((r2.1 ++ [32]) ++ gap))) rfl (pv_bin rfl rfl (bin_cat hl5)) ?_
                refine wo_val (.str (s ++ ((r2.1 ++ [32]) ++ gap))) rfl pv_assign ?_
                refine wo_nil ?_
                refine wr_inBlock ?_
                refine wr_region ?_
                refine wo_val (.int .i64 (IntKind.wrap .i64 ((j1 : Int) + 1))) rfl (pv_bin rfl rfl rfl) ?_
                refine wo_val (.int .i64 (IntKind.wrap .i64 ((j1 : Int) + 1))) rfl pv_move ?_
                refine wo_nil ?_
                refine wr_is [(0, (.sl 4 (List.map rToken l))), (1, (.sl 1 (List.map (rI .u8) turns))), (9, (.sl 1 (List.map rS [[32], [9], [10], [13, 10], [32, 32], (([47, 47] ++ words) ++ [10]), [32, 47, 47, 32, 10], [10, 47, 47, 10]]))), (10, (.str (s ++ ((r2.1 ++ [32]) ++ gap)))), (52, (.sl 4 (List.map rToken l))), (53, (.int .i64 (l.length : Int))), (54, (.int .i64 ((j1 + 1 : Nat) : Int)))] (.cons rfl (.cons rfl (.cons rfl (.cons rfl (.cons rfl (.cons rfl (.cons (inc_ok (lt_of_get ha1) hlim1) .nil))))))) ?_
                refine wb_each ?_
                refine hW1 (s ++ ((r2.1 ++ [32]) ++ gap)) _ _ ?_
                exact ⟨rfl, rfl⟩
              · refine wf_ite rfl (fun hc4 => ?_) (fun hc4 => ?_)
                · refine wr_region ?_
                  refine wo_val (.sl 1 (List.map rS [[32], [9], [10], [13, 10], [32, 32], (([47, 47] ++ words) ++ [10]), [32, 47, 47, 32, 10], [10, 47, 47, 10]])) rfl pv_move ?_
                  refine wo_val (.sl 1 (List.map (rI .u8) turns)) rfl pv_move ?_
                  refine wo_val (.int .i64 (j1 : Int)) rfl pv_move ?_
                  refine of_idx fun a2 hz hx1 => ?_
                  refine wo_val (.cp [(.int .u8 a2)] 0) rfl (pv_ixa (ixa_sl ti39 ti5 rfl hz hx1)) ?_
                  refine wo_val (.int .u8 a2) rfl (pv_load (ld_cp ti5 rfl)) ?_
                  refine wo_val (.int .i64 (IntKind.wrap .i64 a2)) rfl (pv_conv (cv_int ti5 ti3)) ?_
                  refine wo_val (.sl 1 (List.map rS [[32], [9], [10], [13, 10], [32, 32], (([47, 47] ++ words) ++ [10]), [32, 47, 47, 32, 10], [10, 47, 47, 10]])) rfl pv_move ?_
                  refine wo_val (.int .i64 ([[32], [9], [10], [13, 10], [32, 32], (([47, 47] ++ words) ++ [10]), [32, 47, 47, 32, 10], [10, 47, 47, 10]].length : Int)) rfl (pv_len (len_sl ti40)) ?_
                  refine of_need fun hz1 => ?_
                  refine wo_val (.int .i64 (Int.tmod (IntKind.wrap .i64 a2) ([[32], [9], [10], [13, 10], [32, 32], (([47, 47] ++ words) ++ [10]), [32, 47, 47, 32, 10], [10, 47, 47, 10]].length : Int))) rfl (pv_bin rfl rfl (bin_rem rfl hz1)) ?_
                  refine of_idx fun a3 hz2 hx2 => ?_
                  refine wo_val (.cp [(.str a3)] 0) rfl (pv_ixa (ixa_sl ti40 ti9 rfl hz2 hx2)) ?_
                  refine wo_val (.str a3) rfl (pv_load (ld_cp ti9 rfl)) ?_
                  refine wo_val (.str a3) rfl pv_assign ?_
                  refine wo_nil ?_
                  refine wr_drop [none] hI rfl (.drop .nil) ?_
                  refine wr_is [(0, (.sl 4 (List.map rToken l))), (1, (.sl 1 (List.map (rI .u8) turns))), (9, (.sl 1 (List.map rS [[32], [9], [10], [13, 10], [32, 32], (([47, 47] ++ words) ++ [10]), [32, 47, 47, 32, 10], [10, 47, 47, 10]]))), (10, (.str s)), (13, (.str r2.1)), (17, (.str a3)), (52, (.sl 4 (List.map rToken l))), (53, (.int .i64 (l.length : Int))), (54, (.int .i64 (j1 : Int)))] (.cons rfl (.cons rfl (.cons rfl (.cons rfl (.cons rfl (.cons rfl (.cons rfl (.cons rfl (.cons rfl .nil))))))))) ?_
                  refine hJ1 a3 _ _ ?_
                  exact ⟨rfl, rfl⟩
                · refine wr_skip ?_
                  refine wr_drop [none] hI rfl (.drop .nil) ?_
                  refine wr_is [(0, (.sl 4 (List.map rToken l))), (1, (.sl 1 (List.map (rI .u8) turns))), (9, (.sl 1 (List.map rS [[32], [9], [10], [13, 10], [32, 32], (([47, 47] ++ words) ++ [10]), [32, 47, 47, 32, 10], [10, 47, 47, 10]]))), (10, (.str s)), (13, (.str r2.1)), (17, (.str [32])), (52, (.sl 4 (List.map rToken l))), (53, (.int .i64 (l.length : Int))), (54, (.int .i64 (j1 : Int)))] (.cons rfl (.cons rfl (.cons rfl (.cons rfl (.cons rfl (.cons rfl (.cons rfl (.cons rfl (.cons rfl .nil))))))))) ?_
                  refine hJ1 [32] _ _ ?_
                  exact ⟨rfl, rfl⟩
          · rintro s fr h ⟨rfl, rfl⟩
            refine wr_mod (alt_inl _ _ _) ?_
            refine wr_seq ?_
            refine wr_region ?_
            refine wo_val (.bool (decide ((l.length : Int) < (l.length : Int)))) rfl (pv_bin rfl rfl rfl) ?_
            refine wo_nil ?_
            refine wr_seq ?_
            refine wr_condF rfl (Int.lt_irrefl _) ?_
            refine wr_exit rfl ?_
            refine wr_seq ?_
            refine wr_region ?_
            refine wo_val (.str s) rfl pv_move ?_
            refine of_call [(.str s)] rfl rfl rfl rfl ((cp_lex_Lex s) _) (fun v _ => wu_pan Tryd.func8 hI) fun r4 _ => ?_
            refine wo_val (.tup [(.sl 4 (List.map rToken r4.1)), (.int .i64 r4.2.1), (.int .i64 r4.2.2)]) rfl pv_move ?_
            refine wo_val (.sl 4 (List.map rToken r4.1)) rfl (pv_ext rfl) ?_
            refine wo_val (.int .i64 r4.2.1) rfl (pv_ext rfl) ?_
            refine wo_val (.int .i64 r4.2.2) rfl (pv_ext rfl) ?_
            refine wo_val (.sl 4 (List.map rToken r4.1)) rfl pv_assign ?_
            refine wo_val (.int .i64 r4.2.1) rfl pv_assign ?_
            refine wo_val (.int .i64 r4.2.2) rfl pv_assign ?_
            refine wo_nil ?_
            refine wr_seq ?_
            refine wr_region ?_
            refine wo_val (.int .i64 r4.2.2) rfl pv_move ?_
            refine wo_val (.bool (r4.2.2 == 0)) rfl (pv_bin rfl rfl rfl) ?_
            refine wo_val (.bool (r4.2.2 == 0)) rfl pv_move ?_
            refine wo_meet 3 [(0, (.sl 4 (List.map rToken l))), (18, (.sl 4 (List.map rToken r4.1))), (107, (.bool ((r4.2.2 == 0) && (r4.2.1 == 0))))] ?_ fun hJ2 => wo_cases (r4.2.2 == 0) (fun hb3 => ?_) (fun hb3 => ?_)
            · refine wo_val (.bool ((r4.2.2 == 0) && (r4.2.1 == 0))) rfl pv_move ?_
              refine wo_join 4 ((fun (b : Bool) => .ok b) : Bool → R Bool) (fun (b : Bool) (fr : Nat → AV) (h : AHeap) => fr = frA [(112, (.bool b))] ∧ h = hp h0 ids [none]) ?_ fun hJ3 => of_if1 (fun hb5 => ?_) (fun hb5 => ?_)
              · rintro b fr h ⟨rfl, rfl⟩
                refine wo_val (.bool b) rfl pv_assign ?_
                refine wo_nil ?_
                exact wr_ret (a := b) (vs := [(.bool b)]) Tryd.func8 hI rfl (.same _)
              · refine wo_valg (tj := 108) (.sl 4 (List.map rToken l)) rfl (congrArg AV.bool hb5) rfl pv_move ?_
                refine wo_valg (tj := 108) (.sl 4 (List.map rToken r4.1)) rfl (congrArg AV.bool hb5) rfl pv_move ?_
                refine of_call [(.sl 4 (List.map rToken l)), (.sl 4 (List.map rToken r4.1))] rfl (wanted_yes (tj := 108) rfl (congrArg AV.bool hb5)) rfl rfl ((cp_lex_Same l r4.1) _) (fun v _ => wu_pan Tryd.func8 hI) fun r5 _ => ?_
                refine wo_val (.bool r5) rfl (pv_pick (t := true) (congrArg AV.bool hb5) rfl) ?_
                refine wo_back1 ?_
                refine wo_is [(112, (.bool r5))] (.cons rfl .nil) ?_
                exact hJ3 r5 _ _ ⟨rfl, rfl⟩
              · refine wo_not (tj := 108) (b := false) rfl (congrArg AV.bool hb5) rfl rfl ?_
                refine wo_not (tj := 108) (b := false) rfl (congrArg AV.bool hb5) rfl rfl ?_
                refine wo_not (tj := 108) (b := false) rfl (congrArg AV.bool hb5) rfl rfl ?_
                refine wo_val (.bool false) rfl (pv_pick (t := false) (congrArg AV.bool hb5) rfl) ?_
                refine wo_back1 ?_
                refine wo_is [(112, (.bool false))] (.cons rfl .nil) ?_
                exact hJ3 false _ _ ⟨rfl, rfl⟩
            · refine wo_valg (tj := 104) (.int .i64 r4.2.1) rfl (congrArg AV.bool hb3) rfl pv_move ?_
              refine wo_valg (tj := 104) (.bool (r4.2.1 == 0)) rfl (congrArg AV.bool hb3) rfl (pv_bin rfl rfl rfl) ?_
              refine wo_val (.bool (r4.2.1 == 0)) rfl (pv_pick (t := true) (congrArg AV.bool hb3) rfl) ?_
              exact wo_is [(0, (.sl 4 (List.map rToken l))), (18, (.sl 4 (List.map rToken r4.1))), (107, (.bool ((r4.2.2 == 0) && (r4.2.1 == 0))))] (.cons rfl (.cons rfl (.cons (and_t hb3) .nil))) hJ2
            · refine wo_not (tj := 104) (b := false) rfl (congrArg AV.bool hb3) rfl rfl ?_
              refine wo_not (tj := 104) (b := false) rfl (congrArg AV.bool hb3) rfl rfl ?_
              refine wo_val (.bool false) rfl (pv_pick (t := false) (congrArg AV.bool hb3) rfl) ?_
              exact wo_is [(0, (.sl 4 (List.map rToken l))), (18, (.sl 4 (List.map rToken r4.1))), (107, (.bool ((r4.2.2 == 0) && (r4.2.1 == 0))))] (.cons rfl (.cons rfl (.cons (and_f hb3) .nil))) hJ2
    · refine wo_not (tj := 26) (b := true) rfl (congrArg AV.bool hb1) rfl rfl ?_
      refine wo_not (tj := 26) (b := true) rfl (congrArg AV.bool hb1) rfl rfl ?_
      refine wo_not (tj := 26) (b := true) rfl (congrArg AV.bool hb1) rfl rfl ?_
      refine wo_val (.bool true) rfl (pv_pick (t := true) (congrArg AV.bool hb1) rfl) ?_
      exact wo_is [(0, (.sl 4 (List.map rToken l))), (1, (.sl 1 (List.map (rI .u8) turns))), (2, (.str note)), (30, (.bool ((!r1) || (decide ((note.length : Int) > 100)))))] (.cons rfl (.cons rfl (.cons rfl (.cons (or_t hb1) .nil)))) hJ
    · refine wo_valg (tj := 26) (.str note) rfl (congrArg AV.bool hb1) rfl pv_move ?_
      refine wo_valg (tj := 26) (.int .i64 (note.length : Int)) rfl (congrArg AV.bool hb1) rfl (pv_len (len_str ti9)) ?_
      refine wo_valg (tj := 26) (.bool (decide ((note.length : Int) > 100))) rfl (congrArg AV.bool hb1) rfl (pv_bin rfl rfl rfl) ?_
      refine wo_val (.bool (decide ((note.length : Int) > 100))) rfl (pv_pick (t := false) (congrArg AV.bool hb1) rfl) ?_
      exact wo_is [(0, (.sl 4 (List.map rToken l))), (1, (.sl 1 (List.map (rI .u8) turns))), (2, (.str note)), (30, (.bool ((!r1) || (decide ((note.length : Int) > 100)))))] (.cons rfl (.cons rfl (.cons rfl (.cons (or_f hb1) .nil)))) hJ
  · refine wr_seq ?_
    refine wr_region ?_
    refine wo_val (.bool false) rfl pv_assign ?_
    refine wo_nil ?_
    exact wr_ret (a := false) (vs := [(.bool false)]) Tryd.func8 hI rfl (.same _)
end Go.Am

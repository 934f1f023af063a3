/- Written by shrink.py from texts of ours: comments struck, what is not reached left out, names short. -/
import Derived.Shelf.Spec.SlicesInsertGrow
import Derived.Test.YtnoinnijgnfhiaaGreatDoorProg
import Derived.Test.YtnoinnijgnfhiaaGreatDoorU1
import Derived.Test.YtnoinnijgnfhiaaGreatDoorU4
import Derived.KernelRfl
set_option linter.unusedVariables false
set_option linter.unusedSimpArgs false
namespace Go.Proofs
open Go.Shelf Go.RowKit Go.Lib
theorem Qu {P:Program}(w:World)(dT sT ty elem:TypeId)(k b o dLen dCap:Nat)(a:Addr)(sLen sCap:Nat)(cs:List Value)
  (hu:P.underlying dT=some (.slice elem)) (hs:(P.info? elem).map (·.size)=some k) (hn:cs.length=Nat.min sLen dLen * k)
  (hsrc : ∀ j v,cs[j]? = some v→w.cell? (a.add j)=some v) (hc : ∀ j,j<cs.length→(w.cell? ⟨b,o+j,none⟩).isSome=true) (hf : ∀ j,j<cs.length→w.frozen? ⟨b,o+j,none⟩=false) (h1 : ∀ v ∈ cs,v.oneCell'=true) :
  (Builtin.copy_ #[dT,sT] ty #[.slice (some ⟨b,o,none⟩) dLen dCap,.slice (some a) sLen sCap]).run P w=.ok (goInt (Nat.min sLen dLen)) (w.setCells b o cs):=by
 have hl:=run_loadCells_list (P:=P) w a cs hsrc
 have hst:=run_storeCells_cells (P:=P) b o cs 0 w (by simpa using hc) (by simpa using hf) h1
 cases hq:P.info? elem with
 | none=>simp [hq] at hs
 | some i=>
  have hi:i.size=k:=by simpa [hq] using hs
  simp [Builtin.copy_,run_underlying hu,Builtin.lenOf,Builtin.firstCells,sizeOf,typeInfo,hq,hi,← hn,hl,hst]
local instance gwLocal:Am.GW Tryz.prog:={ n:=0,G:=fun _ _=>True,keep:=fun _ _ _=>trivial }
set_option maxHeartbeats 4000000 in
set_option maxRecDepth 100000 in
theorem Tryz.insert91_shift (b off n c i vb voff m vc : Nat) (cs vs : List Value) (w : World) (hi : i < n) (hm : 0 < m) (hroom : n + m ≤ c) (hnm : n + m ≤ 9223372036854775807) (hvb : vb ≠ b)
  (hcl : cs.length = n * 37) (hvl : vs.length = m * 37)
  (hcs : ∀ j v, cs[j]? = some v → w.cell? ⟨b, off + j, none⟩ = some v) (hsp : ∀ j, j < (n + m) * 37 → (w.cell? ⟨b, off + j, none⟩).isSome = true) (hfz : ∀ j, j < (n + m) * 37 → w.frozen? ⟨b, off + j, none⟩ = false)
  (hvs : ∀ j v, vs[j]? = some v → w.cell? ⟨vb, voff + j, none⟩ = some v) (h1c : ∀ v ∈ cs, v.oneCell' = true) (h1v : ∀ v ∈ vs, v.oneCell' = true)
  (tA tB : TypeId) (kA kB : Nat) (hsa : w.shape? vb = some (tA, kA)) (hsb : w.shape? b = some (tB, kB)) (hkB : kB ≠ 0) (hfa : w.frozen? ⟨vb, voff, none⟩ = false) (hfe : w.frozen? ⟨vb, kA, none⟩ = false) :
  Calls Tryz.prog 91 #[.slice (some ⟨b, off, none⟩) n c, .int .i64 i, .slice (some ⟨vb, voff, none⟩) m vc] w fun e w' =>
   e = .returned (.slice (some ⟨b, off, none⟩) (n + m) c) ∧ w' = (w.drew.setCells b (off + (i + m) * 37) (cs.drop (i * 37))).setCells b (off + i * 37) vs := by
 have t0 := Tryz.underlying0; have a0 := Tryz.isAgg0; have z0 := Tryz.sizeOf0; have v0 := Tryz.zeroValue0; have t3 := Tryz.underlying3; have a3 := Tryz.isAgg3; have z3 := Tryz.sizeOf3; have v3 := Tryz.zeroValue3; have t4 := Tryz.underlying4; have a4 := Tryz.isAgg4; have z4 := Tryz.sizeOf4; have v4 := Tryz.zeroValue4; have t22 := Tryz.underlying33; have a22 := Tryz.isAgg33; have z22 := Tryz.sizeOf33; have v22 := Tryz.zeroValue33
 have z24 := Tryz.sizeOf61
 have u0 := run_underlying Tryz.underlying0; have u3 := run_underlying Tryz.underlying3; have u4 := run_underlying Tryz.underlying4; have u22 := run_underlying Tryz.underlying33
 have hz1 : ¬ ((m : Int) = 0) := by omega
 have hz2 : ¬ ((i : Int) = (n : Int)) := by omega
 have hsz : (Tryz.prog.info? 61).map (·.size) = some 37 := by kernel_rfl
 have hov : ∀ lb cb, (callFunc 118 #[.slice (some ⟨vb, voff, none⟩) m vc, .slice (some ⟨b, off + (i + m) * 37, none⟩) lb cb]).run Tryz.prog w = .ok (.value (.bool false)) w := fun lb cb => by
  rw [run_callFunc_extern Tryz.func118 (by kernel_rfl) (by kernel_rfl) (by kernel_rfl) (e := Extern.SlicesOverlaps.overlaps #[33, 33] #[4]) (by kernel_rfl),
   Lib.run_overlaps_apart w 33 4 61 Tryz.underlying33 37 Tryz.sizeOf61 ⟨vb, voff, none⟩ ⟨b, off + (i + m) * 37, none⟩ m vc lb cb hvb tA tB kA kB hsa hsb hkB hfa hfe]
  rfl
 have hdl : (cs.drop (i * 37)).length = (n - i) * 37 := by rw [List.length_drop, hcl]; omega
 have mixed : Tryz.prog.follows .mixedOrders = true := by kernel_rfl
 have hw1 : IntKind.i64.wrap ((i : Int) + (m : Int)) = (i : Int) + (m : Int) := by rw [IntKind.wrap_i64]; omega
 have hb1 : (0 : Int) ≤ (i : Int) + (m : Int) := by omega
 have hin : i ≤ n := by omega
 have htn : ((i : Int) + (m : Int)).toNat = i + m := by omega
 have hb2 : ¬ (c = i + m) := by omega
 have hb3 : (i : Int) ≤ (n : Int) + (m : Int) := by omega
 have hb4 : ¬ (c = i) := by omega
 have hcp1 : ∀ ty dc sc, (Builtin.copy_ #[33, 33] ty #[.slice (some ⟨b, off + (i + m) * 37, none⟩) (n + m - (i + m)) dc, .slice (some ⟨b, off + i * 37, none⟩) (n + m - i) sc]).run Tryz.prog w.drew = .ok (goInt ((n - i : Nat) : Int)) (w.drew.setCells b (off + (i + m) * 37) (cs.drop (i * 37))) := fun ty dc sc => by
  have hmin : Nat.min (n + m - i) (n + m - (i + m)) = n - i := by simp only [Nat.min_def]; split <;> omega
  have := Qu w.drew 33 33 ty 61 37 b (off + (i + m) * 37) (n + m - (i + m)) dc ⟨b, off + i * 37, none⟩ (n + m - i) sc (cs.drop (i * 37)) Tryz.underlying33 hsz (by rw [hdl, hmin])
   (fun j v hj => by rw [Addr.add_lit, Nat.add_assoc]; exact hcs (i * 37 + j) v (by rwa [List.getElem?_drop] at hj))
   (fun j hj => by rw [Nat.add_assoc]; exact hsp _ (by omega)) (fun j hj => by rw [Nat.add_assoc]; exact hfz _ (by omega)) (fun v hv => h1c v (List.mem_of_mem_drop hv))
  rw [hmin] at this
  exact this
 obtain ⟨W1, hW1⟩ : ∃ W1, W1 = w.drew.setCells b (off + (i + m) * 37) (cs.drop (i * 37)) := ⟨_, rfl⟩
 have hsp1 : ∀ k, k < (n + m) * 37 → (W1.cell? ⟨b, off + k, none⟩).isSome = true := fun k hk => by
  rw [hW1]
  exact isSome_setCells b _ _ _ (fun j hj => by rw [Nat.add_assoc]; exact hsp _ (by omega)) _ (hsp k hk)
 have hcp2 : ∀ (W : World), (∀ x, W.cell? x = W1.cell? x) → (∀ x, W.frozen? x = W1.frozen? x) → ∀ ty dc, (Builtin.copy_ #[33, 33] ty #[.slice (some ⟨b, off + i * 37, none⟩) (n + m - i) dc, .slice (some ⟨vb, voff, none⟩) m vc]).run Tryz.prog W = .ok (goInt m) (W.setCells b (off + i * 37) vs) := fun W hWc hWf ty dc => by
  have hmin : Nat.min m (n + m - i) = m := by simp only [Nat.min_def]; split <;> omega
  have := Qu W 33 33 ty 61 37 b (off + i * 37) (n + m - i) dc ⟨vb, voff, none⟩ m vc vs Tryz.underlying33 hsz (by rw [hvl, hmin])
   (fun j v hj => by
    rw [Addr.add_lit, hWc, hW1, World.cell?_setCells_out b _ _ _ _ (fun h _ => absurd h hvb)]
    exact hvs j v hj)
   (fun j hj => by rw [hWc, Nat.add_assoc]; exact hsp1 _ (by omega)) (fun j hj => by rw [hWf, hW1, World.frozen?_setCells, Nat.add_assoc]; exact hfz _ (by omega)) h1v
  rw [hmin] at this
  exact this
 rw [← hW1] at hcp1
 have nt : Tryz.f91.ntmps = 95 := by kernel_rfl
 go_enter Tryz.func91, nt
 go_wp2_with (simp only [hov])
 go_region_law_o (refine step_copy_runI rfl _ _ 33 33 rfl _ _ (by simp [Act.eval, Act.put]) (by simp [Act.eval, Act.put]) (hcp1 _ _ _) ?_)
 go_wp2_with (at_builtin; refine wpList_copy_runI _ rfl _ _ 33 33 rfl _ _ rfl rfl (hcp2 _ (fun _ => rfl) (fun _ => rfl) _ _) ?_)
 go_ret
 first | exact ⟨rfl, rfl⟩ | exact ⟨rfl, by rw [hW1]⟩
def Tryz.zero61:Value:=.agg #[.int .i64 0,.int .i64 0,.int .i64 0,.int .i64 0,.int .u8 0,.int .u8 0,.int .u8 0,.int .u8 0,.int .u8 0,.int .u8 0,.int .u8 0,.int .u8 0,.int .u8 0,.int .u8 0,.int .u8 0,.int .u8 0,.int .u8 0,.int .u8 0,.int .u8 0,.int .u8 0,.int .u8 0,.int .u8 0,.int .u8 0,.int .u8 0,.int .u8 0,.int .u8 0,.int .u8 0,.int .u8 0,.int .u8 0,.int .u8 0,.int .u8 0,.int .u8 0,.int .u8 0,.int .u8 0,.int .u8 0,.int .u8 0,.slice none 0 0]
theorem Tryz.info61 : ∃ i,Tryz.prog.info? 61=some i∧i.zero=some Tryz.zero61∧i.size=37∧i.bytes=88:=by
 have h:(Tryz.prog.info? 61).map (fun i=>(i.zero,i.size,i.bytes))=some (some (.agg #[.int .i64 0,.int .i64 0,.int .i64 0,.int .i64 0,.int .u8 0,.int .u8 0,.int .u8 0,.int .u8 0,.int .u8 0,.int .u8 0,.int .u8 0,.int .u8 0,.int .u8 0,.int .u8 0,.int .u8 0,.int .u8 0,.int .u8 0,.int .u8 0,.int .u8 0,.int .u8 0,.int .u8 0,.int .u8 0,.int .u8 0,.int .u8 0,.int .u8 0,.int .u8 0,.int .u8 0,.int .u8 0,.int .u8 0,.int .u8 0,.int .u8 0,.int .u8 0,.int .u8 0,.int .u8 0,.int .u8 0,.int .u8 0,.slice none 0 0]),37,88):=by kernel_rfl
 obtain⟨i0,hi0,hz0,hzs,hzb⟩:=info_parts h
 exact⟨i0,hi0,hz0,hzs,hzb⟩
set_option maxHeartbeats 4000000 in
set_option maxRecDepth 100000 in
theorem Tryz.insert91_end_room (b off n c vb voff m vc : Nat) (vs : List Value) (w : World) (hm : 0 < m) (hroom : n + m ≤ c) (hnm : n + m ≤ 9223372036854775807)
  (hvl : vs.length = m * 37) (hsp : ∀ j, j < m * 37 → (w.cell? ⟨b, off + n * 37 + j, none⟩).isSome = true) (hfz : ∀ j, j < m * 37 → w.frozen? ⟨b, off + n * 37 + j, none⟩ = false)
  (hvs : ∀ j v, vs[j]? = some v → w.cell? ⟨vb, voff + j, none⟩ = some v) (h1v : ∀ v ∈ vs, v.oneCell' = true) :
  Calls Tryz.prog 91 #[.slice (some ⟨b, off, none⟩) n c, .int .i64 n, .slice (some ⟨vb, voff, none⟩) m vc] w fun e w' =>
   e = .returned (.slice (some ⟨b, off, none⟩) (n + m) c) ∧ w' = w.setCells b (off + n * 37) vs := by
 have t0 := Tryz.underlying0; have a0 := Tryz.isAgg0; have z0 := Tryz.sizeOf0; have v0 := Tryz.zeroValue0; have t3 := Tryz.underlying3; have a3 := Tryz.isAgg3; have z3 := Tryz.sizeOf3; have v3 := Tryz.zeroValue3; have t4 := Tryz.underlying4; have a4 := Tryz.isAgg4; have z4 := Tryz.sizeOf4; have v4 := Tryz.zeroValue4; have t22 := Tryz.underlying33; have a22 := Tryz.isAgg33; have z22 := Tryz.sizeOf33; have v22 := Tryz.zeroValue33
 have z24 := Tryz.sizeOf61
 have u0 := run_underlying Tryz.underlying0; have u3 := run_underlying Tryz.underlying3; have u4 := run_underlying Tryz.underlying4; have u22 := run_underlying Tryz.underlying33
 have mixed : Tryz.prog.follows .mixedOrders = true := by kernel_rfl
 have hz1 : ¬ ((m : Int) = 0) := by omega
 obtain ⟨i0, hi0, hz0, hzs, hzb⟩ := Tryz.info61
 have hrun : ∀ ty, (Builtin.append_ #[33, 33] ty #[.slice (some ⟨b, off, none⟩) n c, .slice (some ⟨vb, voff, none⟩) m vc]).run Tryz.prog w = .ok (.slice (some ⟨b, off, none⟩) (n + m) c) (w.setCells b (off + n * 37) vs) := fun ty => by
  rw [Am.run_app_fits (news := vs) Tryz.underlying33 Tryz.underlying33 (.inl ⟨_, rfl⟩) hi0 (fun w' => rfl) (by rw [hzs]; exact run_firstCells_some w 37 m ⟨vb, voff, none⟩ m vc vs (by omega) (fun j u hj => by rw [Addr.add_lit]; exact hvs j u hj)) hroom]
  have hst := run_storeCells_cells (P := Tryz.prog) b (off + n * 37) vs 0 w (fun j hj => by rw [Nat.add_zero]; exact hsp j (by omega)) (fun j hj => by rw [Nat.add_zero]; exact hfz j (by omega)) h1v
  simp only [Sem.run_bind, Addr.add_lit, hzs, hst, Nat.add_zero, Result.andThen_ok, Sem.run_pure]
 have nt : Tryz.f91.ntmps = 95 := by kernel_rfl
 clear hsp hfz hvs h1v
 go_enter Tryz.func91, nt
 go_wp2_with (at_builtin; refine Lib.wpList_append_run _ rfl _ _ _ _ rfl _ _ rfl rfl _ _ (hrun _) ?_)
 go_ret
 exact ⟨rfl, rfl⟩
set_option maxHeartbeats 4000000 in
set_option maxRecDepth 100000 in
theorem Tryz.insert91_end_grow0 (base : Option Addr) (n c vb voff m vc : Nat) (cs vs : List Value) (w : World) (hm : 0 < m) (hnc : n ≤ c) (hroom : c < n + m) (hbig : (n + m) * 88 ≤ 140737488355328)
  (hcl : cs.length = n * 37) (hvl : vs.length = m * 37) (hnil : base = none → n = 0)
  (hcs : ∀ a, base = some a → ∀ j v, cs[j]? = some v → w.cell? (a.add j) = some v)
  (hvs : ∀ j v, vs[j]? = some v → w.cell? ⟨vb, voff + j, none⟩ = some v) (h1v : ∀ v ∈ vs, v.oneCell' = true) :
  Calls Tryz.prog 91 #[.slice base n c, .int .i64 n, .slice (some ⟨vb, voff, none⟩) m vc] w fun e w' =>
   e = .returned (.slice (some ⟨w.heap.size, 0, none⟩) (n + m) (grownCap w (n + m) c 61)) ∧
   w' = w.drew.alloc (.cells (cs.toArray ++ vs.toArray ++ Builtin.zeroCells Tryz.zero61.cells (grownCap w (n + m) c 61 - (n + m))) 61) := by
 have t0 := Tryz.underlying0; have a0 := Tryz.isAgg0; have z0 := Tryz.sizeOf0; have v0 := Tryz.zeroValue0; have t3 := Tryz.underlying3; have a3 := Tryz.isAgg3; have z3 := Tryz.sizeOf3; have v3 := Tryz.zeroValue3; have t4 := Tryz.underlying4; have a4 := Tryz.isAgg4; have z4 := Tryz.sizeOf4; have v4 := Tryz.zeroValue4; have t22 := Tryz.underlying33; have a22 := Tryz.isAgg33; have z22 := Tryz.sizeOf33; have v22 := Tryz.zeroValue33
 have z24 := Tryz.sizeOf61
 have u0 := run_underlying Tryz.underlying0; have u3 := run_underlying Tryz.underlying3; have u4 := run_underlying Tryz.underlying4; have u22 := run_underlying Tryz.underlying33
 have mixed : Tryz.prog.follows .mixedOrders = true := by kernel_rfl
 obtain ⟨i0, hi0, hz0, hzs, hzb⟩ := Tryz.info61
 have hz1 : ¬ ((m : Int) = 0) := by omega
 have hold : ∀ w' : World, w'.heap = w.heap → (Builtin.firstCells i0.size n (.slice base n c)).run Tryz.prog w' = .ok cs.toArray w' := fun w' hw' => by
  rw [hzs]
  cases base with
  | none =>
   have h0 := hnil rfl
   subst h0
   rw [List.length_eq_zero_iff.1 (by omega : cs.length = 0)]
   exact run_firstCells_none w' 37 0 0 c
  | some a => exact run_firstCells_some w' 37 n a n c cs (by omega) (fun j v hj => by have := hcs a rfl j v hj; unfold World.cell? at this ⊢; rw [hw']; exact this)
 have hrun : ∀ ty, (Builtin.append_ #[33, 33] ty #[.slice base n c, .slice (some ⟨vb, voff, none⟩) m vc]).run Tryz.prog w = .ok (.slice (some ⟨w.heap.size, 0, none⟩) (n + m) (grownCap w (n + m) c 61)) (w.drew.alloc (.cells (cs.toArray ++ vs.toArray ++ Builtin.zeroCells Tryz.zero61.cells (grownCap w (n + m) c 61 - (n + m))) 61)) := fun ty =>
  Am.run_app_grows (olds := cs) (news := vs) Tryz.underlying33 Tryz.underlying33 (.inl ⟨_, rfl⟩) hi0 hz0 (fun w' => rfl)
   (fun w' hw' => by rw [hzs]; exact run_firstCells_some w' 37 m ⟨vb, voff, none⟩ m vc vs (by omega) (fun j u hj => by rw [Addr.add_lit]; have := hvs j u hj; unfold World.cell? at this ⊢; rw [hw']; exact this)) hold hroom (by rw [hzb]; exact hbig) (by rw [hzb]; decide)
 obtain ⟨ROW, hROW⟩ : ∃ ROW, ROW = cs.toArray ++ vs.toArray ++ Builtin.zeroCells Tryz.zero61.cells (grownCap w (n + m) c 61 - (n + m)) := ⟨_, rfl⟩
 obtain ⟨G, hG⟩ : ∃ G, G = grownCap w (n + m) c 61 := ⟨_, rfl⟩
 simp only [← hROW, ← hG]
 simp only [← hROW, ← hG] at hrun
 have nt : Tryz.f91.ntmps = 95 := by kernel_rfl
 clear hcs hvs h1v hold hROW hG
 go_enter Tryz.func91, nt
 cases base with
 | none =>
  have h0 := hnil rfl
  subst h0
  go_wp2_with (at_builtin; refine Lib.wpList_append_run _ rfl _ _ _ _ rfl _ _ rfl rfl _ _ (hrun _) ?_)
  go_ret
  exact ⟨rfl, rfl⟩
 | some a =>
  obtain ⟨ab, ao, asp⟩ := a
  go_wp2_with (at_builtin; refine Lib.wpList_append_run _ rfl _ _ _ _ rfl _ _ rfl rfl _ _ (hrun _) ?_)
  all_goals (go_ret; exact ⟨rfl, rfl⟩)
set_option maxHeartbeats 4000000 in
set_option maxRecDepth 100000 in
theorem Tryz.insert91_grow (b off n c i vb voff m vc : Nat) (cs vs : List Value) (w : World) (hi : i < n) (hm : 0 < m) (hnc : n ≤ c) (hroom : c < n + m) (hbig : (n + m) * 88 ≤ 140737488355328)
  (hcl : cs.length = n * 37) (hvl : vs.length = m * 37)
  (hcs : ∀ j v, cs[j]? = some v → w.cell? ⟨b, off + j, none⟩ = some v)
  (hvs : ∀ j v, vs[j]? = some v → w.cell? ⟨vb, voff + j, none⟩ = some v) (h1c : ∀ v ∈ cs, v.oneCell' = true) (h1v : ∀ v ∈ vs, v.oneCell' = true) :
  Calls Tryz.prog 91 #[.slice (some ⟨b, off, none⟩) n c, .int .i64 i, .slice (some ⟨vb, voff, none⟩) m vc] w fun e w' =>
   e = .returned (.slice (some ⟨w.heap.size, 0, none⟩) (n + m) (grownCap w (n + m) c 61)) ∧
   w' = (((w.alloc (.cells ((cs.take (i * 37)).toArray ++ Builtin.zeroCells Tryz.zero61.cells (n + m - i) ++ Builtin.zeroCells Tryz.zero61.cells (grownCap w (n + m) c 61 - (n + m))) 61)).drew.setCells w.heap.size (i * 37) vs).drew).setCells w.heap.size ((i + m) * 37) (cs.drop (i * 37)) := by
 have t0 := Tryz.underlying0; have a0 := Tryz.isAgg0; have z0 := Tryz.sizeOf0; have v0 := Tryz.zeroValue0; have t3 := Tryz.underlying3; have a3 := Tryz.isAgg3; have z3 := Tryz.sizeOf3; have v3 := Tryz.zeroValue3; have t4 := Tryz.underlying4; have a4 := Tryz.isAgg4; have z4 := Tryz.sizeOf4; have v4 := Tryz.zeroValue4; have t22 := Tryz.underlying33; have a22 := Tryz.isAgg33; have z22 := Tryz.sizeOf33; have v22 := Tryz.zeroValue33
 have z24 := Tryz.sizeOf61
 have u0 := run_underlying Tryz.underlying0; have u3 := run_underlying Tryz.underlying3; have u4 := run_underlying Tryz.underlying4; have u22 := run_underlying Tryz.underlying33
 have mixed : Tryz.prog.follows .mixedOrders = true := by kernel_rfl
 obtain ⟨i0, hi0, hz0, hzs, hzb⟩ := Tryz.info61
 have hz1 : ¬ ((m : Int) = 0) := by omega
 have hz2 : ¬ ((i : Int) = (n : Int)) := by omega
 have hz3 : (c : Int) < (n : Int) + (m : Int) := by omega
 have hsz : (Tryz.prog.info? 61).map (·.size) = some 37 := by rw [hi0]; simp [hzs]
 have hbw : b < w.heap.size := block_lt_of_cell (hcs 0 _ (List.getElem?_eq_getElem (by omega)))
 have hvw : vb < w.heap.size := block_lt_of_cell (hvs 0 _ (List.getElem?_eq_getElem (by omega)))
 have hkk : (n : Int) + (m : Int) - (i : Int) = ((n + m - i : Nat) : Int) := by omega
 have hik : i + (n + m - i) = n + m := by omega
 have hold : (Builtin.firstCells i0.size i (.slice (some ⟨b, off, none⟩) i c)).run Tryz.prog w.drew = .ok (cs.take (i * 37)).toArray w.drew := by
  rw [hzs]
  exact run_firstCells_some w.drew 37 i ⟨b, off, none⟩ i c (cs.take (i * 37)) (by rw [List.length_take]; omega) (fun j v hj => by
   rw [Addr.add_lit]
   rw [List.getElem?_take] at hj
   split at hj
   ·exact hcs j v hj
   ·cases hj)
 have hrz : ∀ ty, (Builtin.append_ #[33, 3] ty #[.slice (some ⟨b, off, none⟩) i c, .int .i64 ((n : Int) + (m : Int) - (i : Int))]).run Tryz.prog w =
   .ok (.slice (some ⟨w.heap.size, 0, none⟩) (n + m) (grownCap w (n + m) c 61)) (w.drew.alloc (.cells ((cs.take (i * 37)).toArray ++ Builtin.zeroCells Tryz.zero61.cells (n + m - i) ++ Builtin.zeroCells Tryz.zero61.cells (grownCap w (n + m) c 61 - (n + m))) 61)) := fun ty => by
  have h := Lib.run_append_grow_zeros w 33 3 ty 61 i0 _ .i64 .i64 Tryz.underlying33 Tryz.underlying3 hi0 hz0 (some ⟨b, off, none⟩) i c (cs.take (i * 37)) hold (n + m - i) (by omega) (by omega) (by omega) (by omega) (by rw [hzb]; omega) (by rw [hzb, hik]; exact growslice_fits hroom hbig)
  rw [hik] at h
  rw [hkk]
  exact h
 obtain ⟨G, hG⟩ : ∃ G, G = grownCap w (n + m) c 61 := ⟨_, rfl⟩
 obtain ⟨ROW, hROW⟩ : ∃ ROW : Array Value, ROW = (cs.take (i * 37)).toArray ++ Builtin.zeroCells Tryz.zero61.cells (n + m - i) ++ Builtin.zeroCells Tryz.zero61.cells (G - (n + m)) := ⟨_, rfl⟩
 rw [← hG] at hrz ⊢
 rw [← hROW] at hrz ⊢
 have hRl : (n + m) * 37 ≤ ROW.size := by
  rw [hROW]
  simp only [Array.size_append, Am.size_zc, List.size_toArray, List.length_take, show Tryz.zero61.cells.size = 37 from rfl]
  omega
 obtain ⟨W1, hW1⟩ : ∃ W1, W1 = w.drew.alloc (.cells ROW 61) := ⟨_, rfl⟩
 rw [← hW1] at hrz
 have hN : ∀ j, j < (n + m) * 37 → (W1.cell? ⟨w.heap.size, j, none⟩).isSome = true := fun j hj => by
  rw [hW1, World.cell?_alloc_at (w := w.drew) ROW _ w.heap.size j rfl, Array.getElem?_eq_getElem (by omega)]; rfl
 have hNf : ∀ j, W1.frozen? ⟨w.heap.size, j, none⟩ = false := fun j => by rw [hW1]; exact World.frozen?_alloc_at (w := w.drew) ROW _ w.heap.size j rfl
 have hOb : ∀ j v, w.cell? ⟨b, j, none⟩ = some v → W1.cell? ⟨b, j, none⟩ = some v := fun j v h => by rw [hW1, World.cell?_alloc_past (w := w.drew) _ b j hbw]; exact h
 have hOv : ∀ j v, w.cell? ⟨vb, j, none⟩ = some v → W1.cell? ⟨vb, j, none⟩ = some v := fun j v h => by rw [hW1, World.cell?_alloc_past (w := w.drew) _ vb j hvw]; exact h
 have hcpA : ∀ (W : World), (∀ x, W.cell? x = W1.cell? x) → (∀ x, W.frozen? x = W1.frozen? x) → ∀ ty dc, (Builtin.copy_ #[33, 33] ty #[.slice (some ⟨w.heap.size, i * 37, none⟩) (n + m - i) dc, .slice (some ⟨vb, voff, none⟩) m vc]).run Tryz.prog W = .ok (goInt m) (W.setCells w.heap.size (i * 37) vs) := fun W hWc hWf ty dc => by
  have hmin : Nat.min m (n + m - i) = m := by simp only [Nat.min_def]; split <;> omega
  have := Qu W 33 33 ty 61 37 w.heap.size (i * 37) (n + m - i) dc ⟨vb, voff, none⟩ m vc vs Tryz.underlying33 hsz (by rw [hvl, hmin])
   (fun j v hj => by rw [Addr.add_lit, hWc]; exact hOv _ v (hvs j v hj))
   (fun j hj => by rw [hWc]; exact hN _ (by omega)) (fun j hj => by rw [hWf]; exact hNf _) h1v
  rw [hmin] at this
  exact this
 have hGn : n + m ≤ G := by rw [hG]; exact grownCap_ge w _ _ _
 have hG63 : G ≤ 9223372036854775807 := by
  have := grownCap_le_maxLen w (n + m) c 61 (by unfold maxLen; omega)
  rw [← hG] at this
  unfold maxLen at this
  omega
 have hGi : ¬ (G = i) := by omega
 have hGim : ¬ (G = i + m) := by omega
 have hci : ¬ (c = i) := by omega
 have hbN : b ≠ w.heap.size := by omega
 have hdl : (cs.drop (i * 37)).length = (n - i) * 37 := by rw [List.length_drop, hcl]; omega
 have hcpB : ∀ (W : World), (∀ x, W.cell? x = (W1.setCells w.heap.size (i * 37) vs).cell? x) → (∀ x, W.frozen? x = (W1.setCells w.heap.size (i * 37) vs).frozen? x) → ∀ ty dc sc, (Builtin.copy_ #[33, 33] ty #[.slice (some ⟨w.heap.size, (i + m) * 37, none⟩) (n + m - (i + m)) dc, .slice (some ⟨b, off + i * 37, none⟩) (n - i) sc]).run Tryz.prog W = .ok (goInt ((n - i : Nat) : Int)) (W.setCells w.heap.size ((i + m) * 37) (cs.drop (i * 37))) := fun W hWc hWf ty dc sc => by
  have hmin : Nat.min (n - i) (n + m - (i + m)) = n - i := by simp only [Nat.min_def]; split <;> omega
  have := Qu W 33 33 ty 61 37 w.heap.size ((i + m) * 37) (n + m - (i + m)) dc ⟨b, off + i * 37, none⟩ (n - i) sc (cs.drop (i * 37)) Tryz.underlying33 hsz (by rw [hdl, hmin])
   (fun j v hj => by
    rw [Addr.add_lit, hWc, World.cell?_setCells_out _ _ _ _ _ (fun h _ => absurd h hbN), Nat.add_assoc]
    exact hOb _ v (hcs (i * 37 + j) v (by rwa [List.getElem?_drop] at hj)))
   (fun j hj => by rw [hWc]; exact isSome_setCells _ _ _ _ (fun t ht => hN _ (by omega)) _ (hN _ (by omega)))
   (fun j hj => by rw [hWf, World.frozen?_setCells]; exact hNf _) (fun v hv => h1c v (List.mem_of_mem_drop hv))
  rw [hmin] at this
  exact this
 subst hW1
 have hE1 : ∀ x, ((w.alloc (.cells ROW 61)).drew).cell? x = (w.drew.alloc (.cells ROW 61)).cell? x := fun x => rfl
 have hE2 : ∀ x, ((w.alloc (.cells ROW 61)).drew).frozen? x = (w.drew.alloc (.cells ROW 61)).frozen? x := fun x => rfl
 have hF1 : ∀ x, (((w.alloc (.cells ROW 61)).drew.setCells w.heap.size (i * 37) vs).drew).cell? x = ((w.drew.alloc (.cells ROW 61)).setCells w.heap.size (i * 37) vs).cell? x := fun x => rfl
 have hF2 : ∀ x, (((w.alloc (.cells ROW 61)).drew.setCells w.heap.size (i * 37) vs).drew).frozen? x = ((w.drew.alloc (.cells ROW 61)).setCells w.heap.size (i * 37) vs).frozen? x := fun x => rfl
 have hw1 : IntKind.i64.wrap ((i : Int) + (m : Int)) = (i : Int) + (m : Int) := by rw [IntKind.wrap_i64]; omega
 have hb1 : (0 : Int) ≤ (i : Int) + (m : Int) := by omega
 have hin : i ≤ n := by omega
 have htn : ((i : Int) + (m : Int)).toNat = i + m := by omega
 have hb3 : (i : Int) ≤ (n : Int) := by omega
 have nt : Tryz.f91.ntmps = 95 := by kernel_rfl
 clear hkk hik hold hROW hG hRl
 go_enter Tryz.func91, nt
 go_wp2_with (first
  | (at_builtin; refine Lib.wpList_append_run _ rfl _ _ _ _ rfl _ _ rfl rfl _ _ (hrz _) ?_)
  | (at_builtin; refine wpList_copy_runI _ rfl _ _ 33 33 rfl _ _ rfl rfl (hcpA _ hE1 hE2 _ _) ?_)
  | (at_builtin; refine wpList_copy_runI _ rfl _ _ 33 33 rfl _ _ rfl rfl (hcpB _ (fun _ => rfl) (fun _ => rfl) _ _ _) ?_))
 go_region_law_o (refine step_copy_runI rfl _ _ 33 33 rfl (.slice (some ⟨w.heap.size, (i + m) * 37, none⟩) (n + m - (i + m)) (G - (i + m))) (.slice (some ⟨b, off + i * 37, none⟩) (n - i) (c - i)) (by simp [Act.eval, Act.put]) (by simp [Act.eval, Act.put]) (hcpB _ hF1 hF2 3 (G - (i + m)) (c - i)) ?_)
 go_wp2
 go_ret
 exact ⟨rfl, rfl⟩
end Go.Proofs
namespace Go.Am
open Go Go.Proofs
set_option linter.unusedVariables false
set_option linter.unusedSimpArgs false
def GWp (w:World):Prop:=True
theorem Auk {w w':World}(e : ∀ b,b<3→w'.heap[b]? = w.heap[b]?)(k:GWp w):GWp w':=trivial
def Asz:List (Option (S2×FuncId)):=[none,some ([111,118,101,114,102,108,105,103,104,116,47,114,111,117,110,100,115,46,112,104,97,115,101,115,36,49],182),some ([111,118,101,114,102,108,105,103,104,116,47,114,111,117,110,100,115,46,112,104,97,115,101,115,36,50],183),some ([111,118,101,114,102,108,105,103,104,116,47,114,111,117,110,100,115,46,102,105,110,105,115,104,101,100],185),some ([111,118,101,114,102,108,105,103,104,116,47,114,111,117,110,100,115,46,102,105,110,105,115,104,101,100],185)]
def Aq4:List AV:=Asz.map Aip
def Aka:List AV:=rV (rI .u32) Acu
def Aji:List AV:=rV (rI .u32) Qq
instance gwI:GW Tryz.prog where
 n:=3
 G:=fun m w=>GWp w∧U7 w 0 Aq4∧U7 w 1 Aka∧U7 w 2 Aji
 keep:=fun hn e k=>⟨Auk (fun b hb=>e b (Nat.lt_of_lt_of_le hb hn)) k.1,k.2.1.keep (Nat.lt_of_lt_of_le (by decide) hn) e,k.2.2.1.keep (Nat.lt_of_lt_of_le (by decide) hn) e,k.2.2.2.keep (Nat.lt_of_lt_of_le (by decide) hn) e⟩
 row:=fun b=>if b=0 then some Aq4 else if b=1 then some Aka else if b=2 then some Aji else none
 rowOk:=by
  intro m w b r hn hm k hr
  by_cases h0:b=0
  ·subst h0
   simp at hr
   subst hr
   exact⟨by decide,fun mu M _=>k.2.1.rv mu M⟩
  by_cases h1:b=1
  ·subst h1
   simp at hr
   subst hr
   exact⟨by decide,fun mu M _=>k.2.2.1.rv mu M⟩
  by_cases h2:b=2
  ·subst h2
   simp at hr
   subst hr
   exact⟨by decide,fun mu M _=>k.2.2.2.rv mu M⟩
  simp [h0,h1,h2] at hr
theorem Dn:Tryz.prog.follows .mixedOrders=true:=by kernel_rfl
theorem Bi:ti Tryz.prog 3=some ⟨.int .i64,1,8,[.int .i64 0]⟩:=by kernel_rfl
theorem X1:ti Tryz.prog 4=some ⟨.bool,1,1,[.bool false]⟩:=by kernel_rfl
theorem Eg:ti Tryz.prog 5=some ⟨.int .u8,1,1,[.int .u8 0]⟩:=by kernel_rfl
theorem Xa:ti Tryz.prog 9=some ⟨.str,1,16,[.str []]⟩:=by kernel_rfl
theorem Df:ti Tryz.prog 22=some ⟨.sl 5,1,24,[.emp]⟩:=by kernel_rfl
theorem Pj:ti Tryz.prog 23=some ⟨.sl 28,1,24,[.emp]⟩:=by kernel_rfl
theorem Cn:ti Tryz.prog 24=some ⟨.sl 49,1,24,[.emp]⟩:=by kernel_rfl
theorem A7:ti Tryz.prog 28=some ⟨.sl 3,1,24,[.emp]⟩:=by kernel_rfl
theorem Abb:ti Tryz.prog 29=some ⟨.map 3 47,1,8,[.mnil]⟩:=by kernel_rfl
theorem Hi:ti Tryz.prog 33=some ⟨.sl 61,1,24,[.emp]⟩:=by kernel_rfl
theorem Di:ti Tryz.prog 35=some ⟨.st [(0,3),(1,3),(2,3),(3,28),(4,28),(5,24),(6,33),(7,28)],8,144,[.int .i64 0,.int .i64 0,.int .i64 0,.emp,.emp,.emp,.emp,.emp]⟩:=by kernel_rfl
theorem W6:ti Tryz.prog 39=some ⟨.st [(0,3),(1,28),(2,23)],3,56,[.int .i64 0,.emp,.emp]⟩:=by kernel_rfl
theorem Le:ti Tryz.prog 47=some ⟨.sl 51,1,24,[.emp]⟩:=by kernel_rfl
theorem Bj:ti Tryz.prog 49=some ⟨.arr 32 5,32,32,List.replicate 32 (.int .u8 0)⟩:=by kernel_rfl
theorem Hq:ti Tryz.prog 51=some ⟨.st [(0,3),(1,3),(2,28),(3,49)],35,72,[.int .i64 0,.int .i64 0,.emp,.int .u8 0,.int .u8 0,.int .u8 0,.int .u8 0,.int .u8 0,.int .u8 0,.int .u8 0,.int .u8 0,.int .u8 0,.int .u8 0,.int .u8 0,.int .u8 0,.int .u8 0,.int .u8 0,.int .u8 0,.int .u8 0,.int .u8 0,.int .u8 0,.int .u8 0,.int .u8 0,.int .u8 0,.int .u8 0,.int .u8 0,.int .u8 0,.int .u8 0,.int .u8 0,.int .u8 0,.int .u8 0,.int .u8 0,.int .u8 0,.int .u8 0,.int .u8 0]⟩:=by kernel_rfl
theorem F2:ti Tryz.prog 61=some ⟨.st [(0,3),(1,3),(2,3),(3,3),(4,49),(36,24)],37,88,[.int .i64 0,.int .i64 0,.int .i64 0,.int .i64 0,.int .u8 0,.int .u8 0,.int .u8 0,.int .u8 0,.int .u8 0,.int .u8 0,.int .u8 0,.int .u8 0,.int .u8 0,.int .u8 0,.int .u8 0,.int .u8 0,.int .u8 0,.int .u8 0,.int .u8 0,.int .u8 0,.int .u8 0,.int .u8 0,.int .u8 0,.int .u8 0,.int .u8 0,.int .u8 0,.int .u8 0,.int .u8 0,.int .u8 0,.int .u8 0,.int .u8 0,.int .u8 0,.int .u8 0,.int .u8 0,.int .u8 0,.int .u8 0,.emp]⟩:=by kernel_rfl
theorem Arz:ti Tryz.prog 64=some ⟨.sl 35,1,24,[.emp]⟩:=by kernel_rfl
theorem Aiz:ti Tryz.prog 68=some ⟨.fn,1,8,[.nilf]⟩:=by kernel_rfl
theorem Ajm:ti Tryz.prog 74=some ⟨.sl 86,1,24,[.emp]⟩:=by kernel_rfl
theorem Axv:ti Tryz.prog 76=some ⟨.st [(0,3),(1,74)],2,32,[.int .i64 0,.emp]⟩:=by kernel_rfl
theorem Zz:ti Tryz.prog 78=some ⟨.sl 82,1,24,[.emp]⟩:=by kernel_rfl
theorem Wy:ti Tryz.prog 82=some ⟨.st [(0,3),(1,3),(2,3),(3,3),(4,3)],5,40,[.int .i64 0,.int .i64 0,.int .i64 0,.int .i64 0,.int .i64 0]⟩:=by kernel_rfl
theorem W8:ti Tryz.prog 86=some ⟨.st [(0,3),(1,3),(2,3),(3,3),(4,4)],5,40,[.int .i64 0,.int .i64 0,.int .i64 0,.int .i64 0,.bool false]⟩:=by kernel_rfl
theorem Aku:ti Tryz.prog 99=some ⟨.arr 5 68,5,40,[.nilf,.nilf,.nilf,.nilf,.nilf]⟩:=by kernel_rfl
theorem Zu:ti Tryz.prog 113=some ⟨.map 3 3,1,8,[.mnil]⟩:=by kernel_rfl
theorem Awf:ti Tryz.prog 122=some ⟨.fn,1,8,[.nilf]⟩:=by kernel_rfl
theorem Am3:ti Tryz.prog 159=some ⟨.sl 24,1,24,[.emp]⟩:=by kernel_rfl
theorem J5:ti Tryz.prog 169=some ⟨.sl 171,1,24,[.emp]⟩:=by kernel_rfl
theorem N0:ti Tryz.prog 171=some ⟨.st [(0,3),(1,3),(2,9),(3,169)],4,56,[.int .i64 0,.int .i64 0,.str [],.emp]⟩:=by kernel_rfl
theorem Acn:ti Tryz.prog 174=some ⟨.sl 4,1,24,[.emp]⟩:=by kernel_rfl
theorem Aag:ti Tryz.prog 177=some ⟨.map 3 4,1,8,[.mnil]⟩:=by kernel_rfl
theorem Ang:ti Tryz.prog 189=some ⟨.fn,1,8,[.nilf]⟩:=by kernel_rfl
theorem Ov:ti Tryz.prog 203=some ⟨.st [(0,201)],1,8,[.nilf]⟩:=by kernel_rfl
theorem Awb:ti Tryz.prog 204=some ⟨.ptr 230,1,8,[.nilp]⟩:=by kernel_rfl
theorem Bq:ti Tryz.prog 211=some ⟨.int .u32,1,4,[.int .u32 0]⟩:=by kernel_rfl
theorem Awo:ti Tryz.prog 212=some ⟨.arr 8 211,8,32,[.int .u32 0,.int .u32 0,.int .u32 0,.int .u32 0,.int .u32 0,.int .u32 0,.int .u32 0,.int .u32 0]⟩:=by kernel_rfl
theorem E6:ti Tryz.prog 213=some ⟨.arr 8 211,8,32,[.int .u32 0,.int .u32 0,.int .u32 0,.int .u32 0,.int .u32 0,.int .u32 0,.int .u32 0,.int .u32 0]⟩:=by kernel_rfl
theorem V6:ti Tryz.prog 216=some ⟨.int .u64,1,8,[.int .u64 0]⟩:=by kernel_rfl
theorem Aix:ti Tryz.prog 217=some ⟨.sl 22,1,24,[.emp]⟩:=by kernel_rfl
theorem Ow:ti Tryz.prog 230=some ⟨.arr 4 203,4,32,[.nilf,.nilf,.nilf,.nilf]⟩:=by kernel_rfl
theorem L8:ti Tryz.prog 234=some ⟨.arr 64 211,64,256,List.replicate 64 (.int .u32 0)⟩:=by kernel_rfl
theorem Awu:ti Tryz.prog 238=some ⟨.sl 211,1,24,[.emp]⟩:=by kernel_rfl
theorem Aio:ti Tryz.prog 246=some ⟨.arr 4 4,4,4,[.bool false,.bool false,.bool false,.bool false]⟩:=by kernel_rfl
theorem Axn:Uj Tryz.prog [(0,3),(1,3),(2,3),(3,3),(4,3)]=some [(0,1),(1,1),(2,1),(3,1),(4,1)]:=by kernel_rfl
theorem Q6 {o:BinOp}{x y:Operand}{a b:AV}(ha:a.isAgg=true)(hb:b.isAgg=true):Pc Tryz.prog o 49 x y a b=true:=Ah0 ha hb (by kernel_rfl)
theorem Ave {o:BinOp}{x y:Operand}{a b:AV}(ha:a.isAgg=true)(hb:b.isAgg=true):Pc Tryz.prog o 82 x y a b=true:=Ah0 ha hb (by kernel_rfl)
theorem Avw {aKind:Int}{aSlot:Int}{aAirline:Int}{aFlight:Int}{aToken:Int}{bKind:Int}{bSlot:Int}{bAirline:Int}{bFlight:Int}{bToken:Int}:Ke Tryz.prog .neq 82 (AV.agg [(.int .i64 aKind),(.int .i64 aSlot),(.int .i64 aAirline),(.int .i64 aFlight),(.int .i64 aToken)]) (AV.agg [(.int .i64 bKind),(.int .i64 bSlot),(.int .i64 bAirline),(.int .i64 bFlight),(.int .i64 bToken)])=some (.bool (!((aKind==bKind)&&((aSlot==bSlot)&&((aAirline==bAirline)&&((aFlight==bFlight)&&(aToken==bToken))))))):=by
 have he82:Abr Tryz.prog 82=true:=by kernel_rfl
 simp only [Ke,Rz,he82,if_true,List.drop_succ_cons,List.drop_zero,List.take_succ_cons,List.take_zero,List.take_nil,Auj,Arc,Vt,Hh,Bi,Wy,TK.agg,Nat.reduceAdd,Nat.reduceLT,Nat.reduceLeDiff,List.length_cons,List.length_nil,List.getD_cons_zero,List.getD_cons_succ,Aqs,Bool.and_true,Option.map_some,if_false,Bool.false_eq_true,reduceCtorEq,Nat.zero_add]
 try rfl
end Go.Am
namespace Go.Am
open Go
set_option maxRecDepth 100000
set_option maxHeartbeats 4000000
set_option linter.unusedSimpArgs false
set_option linter.unusedVariables false
noncomputable section
def Ml (l:List Int):R Unit:=T2 l
def Hc (a:Int)(m:(List (Int×Int)))(airlines:List Int):R ((List (Int×Int))×(List Int)):=
 if((decide (a<0))||(decide (a≥8))) then
(.ok (m,airlines))
else
(if((Option.getD (Bv m a) 0)==0) then
(if(airlines.length+[a].length) * 8≤Bt then
 .ok ((H3 m a (IntKind.wrap .i64 ((Option.getD (Bv m a) 0)+1))),(airlines++[a])) else .bad)
else
(.ok ((H3 m a (IntKind.wrap .i64 ((Option.getD (Bv m a) 0)+1))),airlines)))
def F1 (owners:List Int):R ((List Int)×(List (Int×Int))):=
 (eachS (fun _ a=>C7 fun m airlines=>Hc a m airlines) 0 owners ([],[])).bind ((C7 fun m airlines=>(Ml airlines).bind fun _=>
 .ok ((K9 airlines),m)))
def Kv (c:Clearing)(j:Nat)(a:Int)(last:Int):R (Int ⊕ Bool):=
 (if((decide (a≤last))||(decide (a > 4095))) then R.ok true else(idx c.Owners (j:Int)).bind fun a1=>
 R.ok (decide (a1<0))).bind (fun(b:Bool)=>(if b then R.ok true else(idx c.Owners (j:Int)).bind fun a2=>
 R.ok (decide (a2≥8))).bind (fun(b1:Bool)=>if b1 then
(.ok (.inr (false)))
else
(.ok (.inl a))))
def Qa (c:Clearing):R Bool:=
 if(((((((decide (c.No<1))||(decide (c.No > 1048576)))||(decide (c.Slots<1)))||(decide (c.Slots > 8)))||(decide ((c.Flights.length:Int)<1)))||(decide ((c.Flights.length:Int) > c.Slots)))||((c.Owners.length:Int) != (c.Flights.length:Int))) then
(.ok false)
else
((each (fun j a=>fun last=>Kv c j a last) 0 c.Flights (-1)).bind (alt (fun last=>(F1 c.Owners).bind fun r=>
 .ok ((c.Commitments.length:Int)==(r.1.length:Int))) (fun r=>.ok r)))
def La (v:(Vector Int 32))(j:Nat)(a:(Vector Int 32)):R (Unit ⊕ Int):=
 if(v==a) then
(.ok (.inr ((j:Int))))
else
(.ok (.inl ()))
def Nc (s:(List (Vector Int 32)))(v:(Vector Int 32)):R Int:=
 (each (fun j a=>fun _=>La v j a) 0 s ()).bind (alt (fun _=>.ok (-1)) (fun r=>.ok r))
def Ik (s:(List (Vector Int 32)))(v:(Vector Int 32)):R Bool:=
 (Nc s v).bind fun r=>
 .ok (decide (r≥0))
def Hg (c:Clearing):R Bool:=
 (Ik c.Commitments (#v[0,0,0,0,0,0,0,0,0,0,0,0,0,0,0,0,0,0,0,0,0,0,0,0,0,0,0,0,0,0,0,0]:(Vector Int 32))).bind fun r=>
 .ok (!r)
def P1 (c:Clearing):R Bool:=
 (Hg c).bind fun r=>
 .ok ((!r)&&((IntKind.wrap .i64 ((c.Openings.length:Int)+(c.Outcome.length:Int)))==0))
def P8 (a:Int):R Bool:=
 .ok (a != a)
def Js (a:Int)(y:Int):R Int:=
 (P8 a).bind fun xNaN=>
 (P8 y).bind fun yNaN=>
 if xNaN then
(if yNaN then
(.ok 0)
else
(.ok (-1)))
else
(if yNaN then
(.ok 1)
else
(if a<y then
(.ok (-1))
else
(if a > y then
(.ok 1)
else
(.ok 0))))
def Lv (a:Int):R (Unit ⊕ Int):=
 if(a != 0) then
(.ok (.inr (a)))
else
(.ok (.inl ()))
def Tj (vals:List Int):R Int:=
 (each (fun _ a=>fun _=>Lv a) 0 vals ()).bind (alt (fun _=>.ok 0) (fun r=>.ok r))
def Mz (a:Opening)(b:Opening):R Int:=
 (Js a.Flight b.Flight).bind fun r=>
 (Js a.Slot b.Slot).bind fun r1=>
 (Tj [r,r1]).bind fun r2=>
 .ok r2
def M9 (v:Int)(j:Nat)(a:Int):R (Unit ⊕ Int):=
 if(v==a) then
(.ok (.inr ((j:Int))))
else
(.ok (.inl ()))
def I0 (s:List Int)(v:Int):R Int:=
 (each (fun j a=>fun _=>M9 v j a) 0 s ()).bind (alt (fun _=>.ok (-1)) (fun r=>.ok r))
def K1 (airline:Int)(flight:Int):R Bool:=
 .ok ((((decide (airline≥0))&&(decide (airline<8)))&&(decide (flight≥0)))&&(decide (flight≤4095)))
def Lt (c:Int):R Bool:=
 .ok ((decide (c≥(-1)))&&(decide (c≤1048576)))
def Jr (W_:Value→R (Int×Bool))(a:Value)(depth:Int):R (Int ⊕ (Int×Bool)):=
 (W_ a).bind fun r=>
 if r.2 then
(.ok (.inl (if r.1 > depth then r.1 else depth)))
else
(.ok (.inr ((0,false))))
def Ru (W_:Value→R (Int×Bool))(v:Value):R (Int×Bool):=
 (if((decide (v.Kind<1))||(decide (v.Kind > 3))) then R.ok true else if(0:Int)≤v.Kind∧v.Kind<4 then
 R.ok (!(A2 (#v[false,((v.S==[])&&((v.L.length:Int)==0)),((v.N==0)&&((v.L.length:Int)==0)),((v.N==0)&&(v.S==[]))]:(Vector Bool 4)) (Int.toNat v.Kind) false)) else .bad).bind (fun(b:Bool)=>if b then
(.ok (0,false))
else
(if v.Kind<3 then
(.ok (0,true))
else
((each (fun _ a=>fun depth=>Jr W_ a depth) 0 v.L 0).bind (alt (fun depth=>.ok ((IntKind.wrap .i64 (depth+1)),true)) (fun r=>.ok r)))))
def Hv:Nat→Value→R (Int×Bool)
 | 0,_=>.bad
 | n+1,v=>Ru (Hv n) v
def Tp (v:Value):R (Int×Bool):=Hv Sn v
def R9 (v:Value):R Int:=
 (Tp v).bind fun r=>
 if r.2 then
(if r.1 > 16 then
(.ok 2)
else
(.ok 0))
else
(.ok 1)
def L4:R Unit:=
 .ok ()
def Rs (n:Int):R Int:=
 .ok (C2 .u64 (Qo .u64 (IntKind.wrap .u64 n) 1) (IntKind.wrap .u64 (Int.fdiv n 9223372036854775808)))
def I7 (u1:Int)(b:List Int):R ((Int×(List Int)) ⊕ (Int×(List Int))):=
 if u1≥128 then
(if(b.length+[(Mg .u8 (IntKind.wrap .u8 u1) 128)].length) * 1≤Bt then
 .ok (.inl ((Int.fdiv u1 128),(b++[(Mg .u8 (IntKind.wrap .u8 u1) 128)]))) else .bad)
else
(.ok (.inr ((u1,b))))
def Ji (u2:Int)(b1:List Int):R (List Int):=
 if(b1.length+[(IntKind.wrap .u8 u2)].length) * 1≤Bt then
 .ok (b1++[(IntKind.wrap .u8 u2)]) else .bad
def Gz (u:Int)(l:List Int):R (List Int):=
 (loop (C7 fun u1 b=>I7 u1 b) (u,l)).bind (C7 fun u2 b1=>Ji u2 b1)
def Fd (v1:Value)(l:List Int):R (List Int):=
 if(l.length+[1].length) * 1≤Bt then
 (Rs v1.N).bind fun r=>
 (Gz r (l++[1])).bind fun r1=>
 .ok r1 else .bad
def Hm (v1:Value)(l:List Int):R (List Int):=
 if(l.length+[2].length) * 1≤Bt then
 (Gz (IntKind.wrap .u64 (v1.S.length:Int)) (l++[2])).bind fun r=>
 if(r.length+(N6 v1.S).length) * 1≤Bt then
 .ok (r++(N6 v1.S)) else .bad else .bad
def Kg (W_:Value→(List Int)→R (List Int))(a:Value)(b1:List Int):R (List Int):=
 if a.Kind=0 then
(.bad)
else
(if a.Kind=1 then
((Fd a b1).bind fun b2=>
 .ok b2)
else
(if a.Kind=2 then
((Hm a b1).bind fun b3=>
 .ok b3)
else
(if a.Kind=3 then
((W_ a b1).bind fun b4=>
 .ok b4)
else
(.bad))))
def Lc (W_:Value→(List Int)→R (List Int))(v1:Value)(l:List Int):R (List Int):=
 if(l.length+[3].length) * 1≤Bt then
 (Gz (IntKind.wrap .u64 (v1.L.length:Int)) (l++[3])).bind fun b=>
 (eachS (fun _ a=>fun b1=>Kg W_ a b1) 0 v1.L b).bind ((fun b1=>.ok b1)) else .bad
def Ig:Nat→Value→(List Int)→R (List Int)
 | 0,_,_=>.bad
 | n+1,v1,l=>Lc (Ig n) v1 l
def Pw (v1:Value)(l:List Int):R (List Int):=Ig Sn v1 l
def G0 (a:Value)(b1:List Int):R (List Int):=
 if a.Kind=0 then
(.bad)
else
(if a.Kind=1 then
((Fd a b1).bind fun b2=>
 .ok b2)
else
(if a.Kind=2 then
((Hm a b1).bind fun b3=>
 .ok b3)
else
(if a.Kind=3 then
((Pw a b1).bind fun b4=>
 .ok b4)
else
(.bad))))
def Lk (v1:Value):R (List Int):=
 if [3].length * 1≤Bt then
 (Gz (IntKind.wrap .u64 (v1.L.length:Int)) [3]).bind fun b=>
 (eachS (fun _ a=>fun b1=>G0 a b1) 0 v1.L b).bind ((fun b1=>.ok b1)) else .bad
def O1 (v:Value):R ((List Int)×Int):=
 (R9 v).bind fun e=>
 if(e != 0) then
(.ok ([],e))
else
((L4).bind fun _=>
 if v.Kind=0 then
(.bad)
else
(if v.Kind=1 then
((Fd v []).bind fun b=>
 .ok (b,0))
else
(if v.Kind=2 then
((Hm v []).bind fun b1=>
 .ok (b1,0))
else
(if v.Kind=3 then
((Lk v).bind fun b2=>
 .ok (b2,0))
else
(.bad)))))
def Rp (a:Int)(n:Int):R Int:=
 .ok (Mg .u32 (Qo .u32 n 8) (IntKind.wrap .u32 a))
def R6 (b:List Int):R Int:=
 if(0:Int)≤4∧4≤(b.length:Int) then
 (eachS (fun _ a=>fun n=>Rp a n) 0 (b.take (Int.toNat 4)) 0).bind ((fun n=>.ok n)) else .bad
def C4 (a:Int)(k:Int):R Int:=
 if(0:Int)≤(Ej .u64 (IntKind.wrap .u64 k) 31) then if(0:Int)≤(IntKind.wrap .u64 (32 - (Ej .u64 (IntKind.wrap .u64 k) 31))) then .ok (Mg .u32 (Qo .u32 a (Ej .u64 (IntKind.wrap .u64 k) 31)) (O9 .u32 a (IntKind.wrap .u64 (32 - (Ej .u64 (IntKind.wrap .u64 k) 31))))) else .bad else .bad
def Mr (v:Int)(a:Int)(b:Int)(c:Int):R Int:=
 (C4 v (IntKind.wrap .i64 (0 - a))).bind fun r=>
 (C4 v (IntKind.wrap .i64 (0 - b))).bind fun r1=>
 (C4 v (IntKind.wrap .i64 (0 - c))).bind fun r2=>
 .ok (C2 .u32 (C2 .u32 r r1) r2)
def Ij (b:List Int)(j:Nat)(o:(Vector Int 64)):R (Vector Int 64):=
 if(0:Int)≤(IntKind.wrap .i64 (4 * (j:Int)))∧(IntKind.wrap .i64 (4 * (j:Int)))≤(b.length:Int) then
 (R6 (b.drop (Int.toNat (IntKind.wrap .i64 (4 * (j:Int)))))).bind fun r=>
 .ok (Nl o j r) else .bad
def Fg (x1:Int)(o1:(Vector Int 64)):R ((Int×(Vector Int 64)) ⊕ (Vector Int 64)):=
 if x1<64 then
(if(0:Int)≤(IntKind.wrap .i64 (x1 - 15))∧(IntKind.wrap .i64 (x1 - 15))<64 then
 if(0:Int)≤(IntKind.wrap .i64 (x1 - 2))∧(IntKind.wrap .i64 (x1 - 2))<64 then
 if(0:Int)≤(IntKind.wrap .i64 (x1 - 16))∧(IntKind.wrap .i64 (x1 - 16))<64 then
 if(0:Int)≤(IntKind.wrap .i64 (x1 - 7))∧(IntKind.wrap .i64 (x1 - 7))<64 then
 (C4 (A2 o1 (Int.toNat (IntKind.wrap .i64 (x1 - 15))) 0) (-7)).bind fun r1=>
 (C4 (A2 o1 (Int.toNat (IntKind.wrap .i64 (x1 - 15))) 0) (-18)).bind fun r2=>
 (C4 (A2 o1 (Int.toNat (IntKind.wrap .i64 (x1 - 2))) 0) (-17)).bind fun r3=>
 (C4 (A2 o1 (Int.toNat (IntKind.wrap .i64 (x1 - 2))) 0) (-19)).bind fun r4=>
 if(0:Int)≤x1∧x1<64 then
 .ok (.inl ((IntKind.wrap .i64 (x1+1)),(Nl o1 (Int.toNat x1) (IntKind.wrap .u32 ((IntKind.wrap .u32 ((IntKind.wrap .u32 ((A2 o1 (Int.toNat (IntKind.wrap .i64 (x1 - 16))) 0)+(C2 .u32 (C2 .u32 r1 r2) (Int.fdiv (A2 o1 (Int.toNat (IntKind.wrap .i64 (x1 - 15))) 0) 8))))+(A2 o1 (Int.toNat (IntKind.wrap .i64 (x1 - 7))) 0)))+(C2 .u32 (C2 .u32 r3 r4) (Int.fdiv (A2 o1 (Int.toNat (IntKind.wrap .i64 (x1 - 2))) 0) 1024))))))) else .bad else .bad else .bad else .bad else .bad)
else
(.ok (.inr (o1)))
def If (o2:(Vector Int 64))(j1:Nat)(o3:(Vector Int 8)):R (Vector Int 8):=
 (Mr (A2 o3 4 0) 6 11 25).bind fun r5=>
 (Mr (A2 o3 0 0) 2 13 22).bind fun r6=>
 if((o3.toList.drop 0).take 7).length≤7 then
 .ok (Nl (Nl (R1 o3 1 ((o3.toList.drop 0).take 7)) 4 (IntKind.wrap .u32 ((A2 (R1 o3 1 ((o3.toList.drop 0).take 7)) 4 0)+(IntKind.wrap .u32 ((IntKind.wrap .u32 ((IntKind.wrap .u32 ((IntKind.wrap .u32 ((A2 o3 7 0)+r5))+(C2 .u32 (A2 o3 6 0) (Ej .u32 (A2 o3 4 0) (C2 .u32 (A2 o3 5 0) (A2 o3 6 0))))))+(A2 Qq j1 0)))+(A2 o2 j1 0)))))) 0 (IntKind.wrap .u32 ((IntKind.wrap .u32 ((IntKind.wrap .u32 ((IntKind.wrap .u32 ((IntKind.wrap .u32 ((A2 o3 7 0)+r5))+(C2 .u32 (A2 o3 6 0) (Ej .u32 (A2 o3 4 0) (C2 .u32 (A2 o3 5 0) (A2 o3 6 0))))))+(A2 Qq j1 0)))+(A2 o2 j1 0)))+(IntKind.wrap .u32 (r6+(Mg .u32 (Ej .u32 (A2 o3 0 0) (A2 o3 1 0)) (Ej .u32 (A2 o3 2 0) (Mg .u32 (A2 o3 0 0) (A2 o3 1 0))))))))) else .bad
def Ie (o3:(Vector Int 8))(j2:Nat)(o4:(Vector Int 8)):R (Vector Int 8):=
 .ok (Nl o4 j2 (IntKind.wrap .u32 ((A2 o4 j2 0)+(A2 o3 j2 0))))
def Gn (s:(Vector Int 8))(o2:(Vector Int 64)):R (Vector Int 8):=
 (eachS (fun j1 _=>fun o3=>If o2 j1 o3) 0 (List.range 64) s).bind ((fun o3=>(eachS (fun j2 _=>fun o4=>Ie o3 j2 o4) 0 (List.range 8) s).bind ((fun o4=>.ok o4))))
def Fl (b:List Int)(s:(Vector Int 8)):R (Vector Int 8):=
 (eachS (fun j _=>fun o=>Ij b j o) 0 (List.range 16) (B0 64 0)).bind ((fun o=>(loop (C7 fun x1 o1=>Fg x1 o1) (16,o)).bind (fun o2=>Gn s o2)))
def Qd (c:Nat)(n:Int)(j:Nat)(o:(Vector Int 128)):R (Vector Int 128):=
 if(0:Int)≤(IntKind.wrap .i64 (8 * (j:Int))) then if(0:Int)≤(IntKind.wrap .i64 (7 - (j:Int)))∧(IntKind.wrap .i64 (7 - (j:Int)))<8 then
 .ok (Nl o (c+Int.toNat (IntKind.wrap .i64 (7 - (j:Int)))) (IntKind.wrap .u8 (O9 .u64 n (IntKind.wrap .i64 (8 * (j:Int)))))) else .bad else .bad
def Pl (c:Nat)(cp:Nat)(n:Int)(s:(Vector Int 128)):R (Vector Int 128):=
 (eachS (fun j _=>fun o=>Qd c n j o) 0 (List.range 8) s).bind ((fun o=>.ok o))
def N9 (c:Nat)(n:Int)(j:Nat)(o:(Vector Int 32)):R (Vector Int 32):=
 if(0:Int)≤(IntKind.wrap .i64 (8 * (j:Int))) then if(0:Int)≤(IntKind.wrap .i64 (3 - (j:Int)))∧(IntKind.wrap .i64 (3 - (j:Int)))<4 then
 .ok (Nl o (c+Int.toNat (IntKind.wrap .i64 (3 - (j:Int)))) (IntKind.wrap .u8 (O9 .u64 n (IntKind.wrap .i64 (8 * (j:Int)))))) else .bad else .bad
def M5 (c:Nat)(cp:Nat)(n:Int)(s:(Vector Int 32)):R (Vector Int 32):=
 (eachS (fun j _=>fun o=>N9 c n j o) 0 (List.range 4) s).bind ((fun o=>.ok o))
def Nv (rest:List Int)(o:(Vector Int 8)):R (((List Int)×(Vector Int 8)) ⊕ ((List Int)×(Vector Int 8))):=
 if(rest.length:Int)≥64 then
(if(0:Int)≤64∧64≤(rest.length:Int) then
 (Fl (rest.take (Int.toNat 64)) o).bind fun r=>
 if(0:Int)≤64∧64≤(rest.length:Int) then
 .ok (.inl ((rest.drop (Int.toNat 64)),r)) else .bad else .bad)
else
(.ok (.inr ((rest,o))))
def Kd (vend:List Int)(o2:(Vector Int 8)):R (((List Int)×(Vector Int 8)) ⊕ (Vector Int 8)):=
 if(vend.length:Int) > 0 then
(if(0:Int)≤64∧64≤(vend.length:Int) then
 (Fl (vend.take (Int.toNat 64)) o2).bind fun r2=>
 if(0:Int)≤64∧64≤(vend.length:Int) then
 .ok (.inl ((vend.drop (Int.toNat 64)),r2)) else .bad else .bad)
else
(.ok (.inr (o2)))
def Qe (o3:(Vector Int 8))(j:Nat)(o4:(Vector Int 32)):R (Vector Int 32):=
 if((IntKind.wrap .i64 ((IntKind.wrap .i64 (4 * (j:Int)))+4))=(IntKind.wrap .i64 (4 * (j:Int)))+4)∧((0:Int)≤(IntKind.wrap .i64 (4 * (j:Int)))∧(IntKind.wrap .i64 (4 * (j:Int)))+4≤32) then
 (M5 (Int.toNat (IntKind.wrap .i64 (4 * (j:Int)))) (32 - (Int.toNat (IntKind.wrap .i64 (4 * (j:Int))))) (IntKind.wrap .u64 (A2 o3 j 0)) o4).bind fun r3=>
 .ok r3 else .bad
def Lw (o3:(Vector Int 8)):R (Vector Int 32):=
 (eachS (fun j _=>fun o4=>Qe o3 j o4) 0 (List.range 8) (B0 32 0)).bind ((fun o4=>.ok o4))
def Qg (vend1:List Int)(o5:(Vector Int 8)):R (((List Int)×(Vector Int 8)) ⊕ (Vector Int 8)):=
 if(vend1.length:Int) > 0 then
(if(0:Int)≤64∧64≤(vend1.length:Int) then
 (Fl (vend1.take (Int.toNat 64)) o5).bind fun r5=>
 if(0:Int)≤64∧64≤(vend1.length:Int) then
 .ok (.inl ((vend1.drop (Int.toNat 64)),r5)) else .bad else .bad)
else
(.ok (.inr (o5)))
def Sf (o6:(Vector Int 8))(j1:Nat)(o7:(Vector Int 32)):R (Vector Int 32):=
 if((IntKind.wrap .i64 ((IntKind.wrap .i64 (4 * (j1:Int)))+4))=(IntKind.wrap .i64 (4 * (j1:Int)))+4)∧((0:Int)≤(IntKind.wrap .i64 (4 * (j1:Int)))∧(IntKind.wrap .i64 (4 * (j1:Int)))+4≤32) then
 (M5 (Int.toNat (IntKind.wrap .i64 (4 * (j1:Int)))) (32 - (Int.toNat (IntKind.wrap .i64 (4 * (j1:Int))))) (IntKind.wrap .u64 (A2 o6 j1 0)) o7).bind fun r6=>
 .ok r6 else .bad
def P7 (o6:(Vector Int 8)):R (Vector Int 32):=
 (eachS (fun j1 _=>fun o7=>Sf o6 j1 o7) 0 (List.range 8) (B0 32 0)).bind ((fun o7=>.ok o7))
def Nt (b:List Int)(rest1:List Int)(o1:(Vector Int 8)):R (Vector Int 32):=
 if rest1.length≤64 then
 if(0:Int)≤(rest1.length:Int)∧(rest1.length:Int)<64 then
 if(rest1.length:Int) > 55 then
((Pl 120 8 (IntKind.wrap .u64 ((IntKind.wrap .u64 (b.length:Int)) * 8)) (Nl (R1 (B0 128 (0:Int)) 0 rest1) (Int.toNat (rest1.length:Int)) 128)).bind fun r1=>
 (loop (C7 fun vend o2=>Kd vend o2) ((r1.toList.take 128),o1)).bind (fun o3=>Lw o3))
else
((Pl 56 72 (IntKind.wrap .u64 ((IntKind.wrap .u64 (b.length:Int)) * 8)) (Nl (R1 (B0 128 (0:Int)) 0 rest1) (Int.toNat (rest1.length:Int)) 128)).bind fun r4=>
 (loop (C7 fun vend1 o5=>Qg vend1 o5) ((r4.toList.take 64),o1)).bind (fun o6=>P7 o6)) else .bad else .bad
def Dk (b:List Int):R (Vector Int 32):=
 (loop (C7 fun rest o=>Nv rest o) (b,Acu)).bind (C7 fun rest1 o1=>Nt b rest1 o1)
def hk0:List Int:=[99,111,115,116]
def hv0:Vector Int 32 := #v[159,130,247,179,117,244,170,27,215,213,10,190,15,118,12,76,165,168,240,32,138,166,133,85,72,156,57,221,124,122,238,170]
theorem hs0:Dk hk0=.ok hv0:=by kernel_rfl
def hk1:List Int:=[159,130,247,179,117,244,170,27,215,213,10,190,15,118,12,76,165,168,240,32,138,166,133,85,72,156,57,221,124,122,238,170,0,0,0,0,0,0,0,0,0,0,0,0,0,0,0,0,0,0,0,0,0,0,0,0,0,0,0,0,0,0,0,0,3,4,1,0,1,10,1,0,1,8]
def hv1:Vector Int 32 := #v[86,201,120,238,206,67,165,246,68,53,53,225,98,174,231,88,184,91,64,150,235,66,164,127,219,27,97,126,189,246,253,249]
theorem hs1:Dk hk1=.ok hv1:=by kernel_rfl
def hk2:List Int:=[159,130,247,179,117,244,170,27,215,213,10,190,15,118,12,76,165,168,240,32,138,166,133,85,72,156,57,221,124,122,238,170,0,0,0,0,0,0,0,0,0,0,0,0,0,0,0,0,0,0,0,0,0,0,0,0,0,0,0,0,0,0,0,0,3,4,1,0,1,10,1,2,1,2]
def hv2:Vector Int 32 := #v[158,238,121,61,83,149,99,18,134,192,125,175,139,98,119,241,223,6,148,9,7,105,55,176,42,32,44,101,4,205,169,171]
theorem hs2:Dk hk2=.ok hv2:=by kernel_rfl
def hk3:List Int:=[108,101,97,102]
def hv3:Vector Int 32 := #v[159,145,22,31,67,67,62,73,166,222,109,182,128,215,159,96,21,159,46,74,201,23,38,33,161,40,70,66,129,88,68,11]
theorem hs3:Dk hk3=.ok hv3:=by kernel_rfl
def hk4:List Int:=[159,145,22,31,67,67,62,73,166,222,109,182,128,215,159,96,21,159,46,74,201,23,38,33,161,40,70,66,129,88,68,11,86,201,120,238,206,67,165,246,68,53,53,225,98,174,231,88,184,91,64,150,235,66,164,127,219,27,97,126,189,246,253,249]
def hv4:Vector Int 32 := #v[222,145,4,110,114,123,197,124,155,33,135,28,61,211,84,158,253,134,68,151,226,86,6,180,185,51,88,31,49,8,132,53]
theorem hs4:Dk hk4=.ok hv4:=by kernel_rfl
def hk5:List Int:=[159,145,22,31,67,67,62,73,166,222,109,182,128,215,159,96,21,159,46,74,201,23,38,33,161,40,70,66,129,88,68,11,158,238,121,61,83,149,99,18,134,192,125,175,139,98,119,241,223,6,148,9,7,105,55,176,42,32,44,101,4,205,169,171]
def hv5:Vector Int 32 := #v[12,3,245,167,69,161,146,137,195,180,59,77,198,45,190,226,112,223,203,130,32,152,92,97,6,5,164,1,93,169,212,33]
theorem hs5:Dk hk5=.ok hv5:=by kernel_rfl
def hk6:List Int:=[110,111,100,101]
def hv6:Vector Int 32 := #v[84,94,165,56,70,16,3,239,220,140,129,194,68,83,27,0,63,111,38,207,204,246,192,7,59,50,57,253,237,244,148,70]
theorem hs6:Dk hk6=.ok hv6:=by kernel_rfl
def hk7:List Int:=[84,94,165,56,70,16,3,239,220,140,129,194,68,83,27,0,63,111,38,207,204,246,192,7,59,50,57,253,237,244,148,70,222,145,4,110,114,123,197,124,155,33,135,28,61,211,84,158,253,134,68,151,226,86,6,180,185,51,88,31,49,8,132,53,12,3,245,167,69,161,146,137,195,180,59,77,198,45,190,226,112,223,203,130,32,152,92,97,6,5,164,1,93,169,212,33]
def hv7:Vector Int 32 := #v[233,189,103,47,143,233,176,245,20,118,76,57,162,192,0,183,241,6,80,71,59,11,143,95,243,30,182,81,173,7,173,193]
theorem hs7:Dk hk7=.ok hv7:=by kernel_rfl
def hk8:List Int:=[159,145,22,31,67,67,62,73,166,222,109,182,128,215,159,96,21,159,46,74,201,23,38,33,161,40,70,66,129,88,68,11,233,189,103,47,143,233,176,245,20,118,76,57,162,192,0,183,241,6,80,71,59,11,143,95,243,30,182,81,173,7,173,193]
def hv8:Vector Int 32 := #v[101,65,231,36,73,77,75,8,168,110,76,209,226,179,202,169,205,189,215,163,197,27,4,0,79,254,216,217,141,222,183,213]
theorem hs8:Dk hk8=.ok hv8:=by kernel_rfl
def hk9:List Int:=[159,130,247,179,117,244,170,27,215,213,10,190,15,118,12,76,165,168,240,32,138,166,133,85,72,156,57,221,124,122,238,170,0,0,0,0,0,0,0,0,0,0,0,0,0,0,0,0,0,0,0,0,0,0,0,0,0,0,0,0,0,0,0,0,3,4,1,6,1,18,1,0,1,4]
def hv9:Vector Int 32 := #v[17,122,206,225,255,102,214,230,45,158,190,151,247,143,161,223,234,197,135,137,11,191,46,108,151,181,0,236,51,40,69,156]
theorem hs9:Dk hk9=.ok hv9:=by kernel_rfl
def Avf:List Int:=[159,130,247,179,117,244,170,27,215,213,10,190,15,118,12,76,165,168,240,32,138,166,133,85,72,156,57,221,124,122,238,170,0,0,0,0,0,0,0,0,0,0,0,0,0,0,0,0,0,0,0,0,0,0,0,0,0,0,0,0,0,0,0,0,3,4,1,6,1,18,1,2,1,12]
def Avu:Vector Int 32 := #v[14,46,40,129,69,7,74,120,194,148,211,246,208,184,8,102,183,40,95,179,9,198,105,80,15,232,117,251,80,57,244,196]
theorem Axj:Dk Avf=.ok Avu:=by kernel_rfl
def Au6:List Int:=[159,145,22,31,67,67,62,73,166,222,109,182,128,215,159,96,21,159,46,74,201,23,38,33,161,40,70,66,129,88,68,11,17,122,206,225,255,102,214,230,45,158,190,151,247,143,161,223,234,197,135,137,11,191,46,108,151,181,0,236,51,40,69,156]
def Auw:Vector Int 32 := #v[100,47,45,123,40,94,119,7,42,5,163,246,119,86,65,8,136,218,181,164,160,230,217,159,243,97,119,15,236,95,254,218]
theorem Axs:Dk Au6=.ok Auw:=by kernel_rfl
def Avk:List Int:=[159,145,22,31,67,67,62,73,166,222,109,182,128,215,159,96,21,159,46,74,201,23,38,33,161,40,70,66,129,88,68,11,14,46,40,129,69,7,74,120,194,148,211,246,208,184,8,102,183,40,95,179,9,198,105,80,15,232,117,251,80,57,244,196]
def Avp:Vector Int 32 := #v[241,217,215,127,29,3,141,165,186,108,48,239,61,143,64,192,35,156,186,30,236,249,214,93,201,51,153,217,76,111,98,41]
theorem Axp:Dk Avk=.ok Avp:=by kernel_rfl
def Avh:List Int:=[84,94,165,56,70,16,3,239,220,140,129,194,68,83,27,0,63,111,38,207,204,246,192,7,59,50,57,253,237,244,148,70,100,47,45,123,40,94,119,7,42,5,163,246,119,86,65,8,136,218,181,164,160,230,217,159,243,97,119,15,236,95,254,218,241,217,215,127,29,3,141,165,186,108,48,239,61,143,64,192,35,156,186,30,236,249,214,93,201,51,153,217,76,111,98,41]
def Avz:Vector Int 32 := #v[200,101,97,15,102,92,202,119,65,32,176,97,229,106,69,170,240,4,140,168,58,154,204,161,247,152,148,33,167,62,178,37]
theorem Axl:Dk Avh=.ok Avz:=by kernel_rfl
def Auv:List Int:=[159,145,22,31,67,67,62,73,166,222,109,182,128,215,159,96,21,159,46,74,201,23,38,33,161,40,70,66,129,88,68,11,200,101,97,15,102,92,202,119,65,32,176,97,229,106,69,170,240,4,140,168,58,154,204,161,247,152,148,33,167,62,178,37]
def Au1:Vector Int 32 := #v[189,107,203,89,123,138,252,122,76,154,241,52,10,45,57,200,138,9,177,113,130,232,85,176,130,96,131,207,221,25,182,179]
theorem Axu:Dk Auv=.ok Au1:=by kernel_rfl
def hks:List (List Int×Vector Int 32):=[(hk0,hv0),(hk1,hv1),(hk2,hv2),(hk3,hv3),(hk4,hv4),(hk5,hv5),(hk6,hv6),(hk7,hv7),(hk8,hv8),(hk9,hv9),(Avf,Avu),(Au6,Auw),(Avk,Avp),(Avh,Avz),(Auv,Au1)]
theorem Avo : ∀ e ∈ hks,Dk e.1=.ok e.2:=List.forall_mem_cons.2 ⟨hs0,List.forall_mem_cons.2 ⟨hs1,List.forall_mem_cons.2 ⟨hs2,List.forall_mem_cons.2 ⟨hs3,List.forall_mem_cons.2 ⟨hs4,List.forall_mem_cons.2 ⟨hs5,List.forall_mem_cons.2 ⟨hs6,List.forall_mem_cons.2 ⟨hs7,List.forall_mem_cons.2 ⟨hs8,List.forall_mem_cons.2 ⟨hs9,List.forall_mem_cons.2 ⟨Axj,List.forall_mem_cons.2 ⟨Axs,List.forall_mem_cons.2 ⟨Axp,List.forall_mem_cons.2 ⟨Axl,List.forall_mem_cons.2 ⟨Axu,fun _ h=>(List.not_mem_nil h).elim⟩⟩⟩⟩⟩⟩⟩⟩⟩⟩⟩⟩⟩⟩⟩
def U3 (b:List Int):R (Vector Int 32):=match hks.find? fun e=>e.1==b with
 | some e=>.ok e.2
 | none=>Dk b
theorem Ago (b:List Int):U3 b=Dk b:=by
 unfold U3
 split
 ·rename_i e h
  rw [← Avo e (List.mem_of_find?_eq_some h),show e.1=b by simpa using List.find?_some h]
 ·rfl
def Ha (n:Int):R (List Int):=
 if n<0 then
(.pan ⟨9,.str [99,97,110,110,111,116,32,98,101,32,110,101,103,97,116,105,118,101]⟩)
else
(if(IntKind.wrap .i64 (n - 0)) > 0 then
(if(0:Int)<(IntKind.wrap .i64 (n - 0))∧(Int.toNat (IntKind.wrap .i64 (n - 0))) * 1≤Bt then
 if(0:Int)≤0∧0≤((List.replicate (Int.toNat (IntKind.wrap .i64 (n - 0))) (0:Int)).length:Int) then
 .ok ((List.replicate (Int.toNat (IntKind.wrap .i64 (n - 0))) (0:Int)).take (Int.toNat 0)) else .bad else .bad)
else
(.ok []))
def G1 (a:List Int)(size:Int):R Int:=
 if(IntKind.wrap .i64 (size+(a.length:Int)))<0 then
(.pan ⟨9,.str [108,101,110,32,111,117,116,32,111,102,32,114,97,110,103,101]⟩)
else
(.ok (IntKind.wrap .i64 (size+(a.length:Int))))
def G2 (a1:List Int)(newslice1:List Int):R (List Int):=
 if(newslice1.length+a1.length) * 1≤Bt then
 .ok (newslice1++a1) else .bad
def F5 (slices:(List (List Int))):R (List Int):=
 (eachS (fun _ a=>fun size=>G1 a size) 0 slices 0).bind ((fun size=>(Ha size).bind fun newslice=>
 (eachS (fun _ a1=>fun newslice1=>G2 a1 newslice1) 0 slices newslice).bind ((fun newslice1=>.ok newslice1))))
def Ir (tag:S2)(b:List Int):R (Vector Int 32):=
 if tag.length≤Bt then
 (U3 (N6 tag)).bind fun r=>
 (F5 [r.toList,b]).bind fun r1=>
 (U3 r1).bind fun r2=>
 .ok r2 else .bad
theorem Xd (tag:S2)(b:List Int):Ir tag b=(
 if tag.length≤Bt then
 (Dk (N6 tag)).bind fun r=>
 (F5 [r.toList,b]).bind fun r1=>
 (Dk r1).bind fun r2=>
 .ok r2 else .bad):=by
 unfold Ir
 simp only [Ago]
def Hd (a:Int)(l1:List Value):R (List Value):=
 if(l1.length+[({ Kind:=1,N:=a,S:=[],L:=[] }:Value)].length) * 56≤Bt then
 .ok (l1++[({ Kind:=1,N:=a,S:=[],L:=[] }:Value)]) else .bad
def H7 (salt:(Vector Int 32))(l:List Int):R (Vector Int 32):=
 (eachS (fun _ a=>fun l1=>Hd a l1) 0 l []).bind ((fun l1=>(O1 ({ Kind:=3,N:=0,S:=[],L:=l1 }:Value)).bind fun r=>
 if r.1.length≠0∧(32+r.1.length) * 1≤Bt then
 (Ir [99,111,115,116] (salt.toList++r.1)).bind fun r1=>
 .ok r1 else .bad))
def Oh (x1:Int)(n1:Int):R Int:=
 if x1≥256 then
((idx ([0,1,2,2,3,3,3,3,4,4,4,4,4,4,4,4,5,5,5,5,5,5,5,5,5,5,5,5,5,5,5,5,6,6,6,6,6,6,6,6,6,6,6,6,6,6,6,6,6,6,6,6,6,6,6,6,6,6,6,6,6,6,6,6,7,7,7,7,7,7,7,7,7,7,7,7,7,7,7,7,7,7,7,7,7,7,7,7,7,7,7,7,7,7,7,7,7,7,7,7,7,7,7,7,7,7,7,7,7,7,7,7,7,7,7,7,7,7,7,7,7,7,7,7,7,7,7,7,8,8,8,8,8,8,8,8,8,8,8,8,8,8,8,8,8,8,8,8,8,8,8,8,8,8,8,8,8,8,8,8,8,8,8,8,8,8,8,8,8,8,8,8,8,8,8,8,8,8,8,8,8,8,8,8,8,8,8,8,8,8,8,8,8,8,8,8,8,8,8,8,8,8,8,8,8,8,8,8,8,8,8,8,8,8,8,8,8,8,8,8,8,8,8,8,8,8,8,8,8,8,8,8,8,8,8,8,8,8,8,8,8,8,8,8,8,8,8,8,8,8,8,8,8,8,8,8]:S2) (IntKind.wrap .u8 (Int.fdiv x1 256))).bind fun a1=>
 .ok (IntKind.wrap .i64 ((IntKind.wrap .i64 (n1+8))+(IntKind.wrap .i64 (a1.toNat:Int)))))
else
((idx ([0,1,2,2,3,3,3,3,4,4,4,4,4,4,4,4,5,5,5,5,5,5,5,5,5,5,5,5,5,5,5,5,6,6,6,6,6,6,6,6,6,6,6,6,6,6,6,6,6,6,6,6,6,6,6,6,6,6,6,6,6,6,6,6,7,7,7,7,7,7,7,7,7,7,7,7,7,7,7,7,7,7,7,7,7,7,7,7,7,7,7,7,7,7,7,7,7,7,7,7,7,7,7,7,7,7,7,7,7,7,7,7,7,7,7,7,7,7,7,7,7,7,7,7,7,7,7,7,8,8,8,8,8,8,8,8,8,8,8,8,8,8,8,8,8,8,8,8,8,8,8,8,8,8,8,8,8,8,8,8,8,8,8,8,8,8,8,8,8,8,8,8,8,8,8,8,8,8,8,8,8,8,8,8,8,8,8,8,8,8,8,8,8,8,8,8,8,8,8,8,8,8,8,8,8,8,8,8,8,8,8,8,8,8,8,8,8,8,8,8,8,8,8,8,8,8,8,8,8,8,8,8,8,8,8,8,8,8,8,8,8,8,8,8,8,8,8,8,8,8,8,8,8,8,8,8]:S2) (IntKind.wrap .u8 x1)).bind fun a2=>
 .ok (IntKind.wrap .i64 (n1+(IntKind.wrap .i64 (a2.toNat:Int)))))
def N7 (x:Int)(n:Int):R Int:=
 if x≥65536 then
(Oh (Int.fdiv x 65536) (IntKind.wrap .i64 (n+16)))
else
(Oh x n)
def Th (a:Int):R Int:=
 if a≥4294967296 then
(N7 (Int.fdiv a 4294967296) 32)
else
(N7 a 0)
def Vx (a:Int):R Int:=
 (Th a).bind fun r=>
 .ok r
def Gp (n:Int):R Int:=
 (Vx (IntKind.wrap .u64 (IntKind.wrap .i64 (n - 1)))).bind fun r=>
 if(0:Int)≤(IntKind.wrap .i64 (r - 1)) then .ok (Qo .i64 1 (IntKind.wrap .i64 (r - 1))) else .bad
def Oq (d:(Vector Int 32)):R (Vector Int 32):=
 (Ir [108,101,97,102] d.toList).bind fun r=>
 .ok r
def Mf (a:(Vector Int 32))(b:(Vector Int 32)):R (Vector Int 32):=
 (F5 [a.toList,b.toList]).bind fun r=>
 (Ir [110,111,100,101] r).bind fun r1=>
 .ok r1
def F0 (vat1:Int)(n1:Int)(first:List Bool):R ((Int×Int×(List Bool)) ⊕ (List Bool)):=
 if n1 > 1 then
((Gp n1).bind fun k=>
 if(first.length+[(decide (vat1<k))].length) * 1≤Bt then
 if vat1<k then
(.ok (.inl (vat1,k,(first++[(decide (vat1<k))]))))
else
(.ok (.inl ((IntKind.wrap .i64 (vat1 - k)),(IntKind.wrap .i64 (n1 - k)),(first++[(decide (vat1<k))])))) else .bad)
else
(.ok (.inr (first)))
def H8 (j:Nat)(a:(Vector Int 32))(o:(Vector Int 32))(first2:List Bool):R ((Vector Int 32)×(List Bool)):=
 (idx first2 (IntKind.wrap .i64 ((IntKind.wrap .i64 ((first2.length:Int) - 1)) - (j:Int)))).bind fun a1=>
 if a1 then
((Mf o a).bind fun r1=>
 .ok (r1,first2))
else
((Mf a o).bind fun r2=>
 .ok (r2,first2))
def Ol (d:(Vector Int 32))(p:(List (Vector Int 32)))(first1:List Bool):R ((Vector Int 32)×Int):=
 if((p.length:Int) != (first1.length:Int)) then
(.ok ((B0 32 0),1))
else
((Oq d).bind fun r=>
 (eachS (fun j a=>C7 fun o first2=>H8 j a o first2) 0 p (r,first1)).bind ((C7 fun o first2=>.ok (o,0))))
def O2 (d:(Vector Int 32))(vat:Int)(n:Int)(p:(List (Vector Int 32))):R ((Vector Int 32)×Int):=
 if((((decide (n<1))||(decide (n > 1099511627776)))||(decide (vat<0)))||(decide (vat≥n))) then
(.ok ((B0 32 0),1))
else
((loop (Nj fun vat1 n1 first=>F0 vat1 n1 first) (vat,n,[])).bind (fun first1=>Ol d p first1))
def J8 (d:(Vector Int 32))(tables:Int)(o:Opening)(x:Int)(r3:((Vector Int 32)×Int))(x1:Int):R (Int ⊕ (Unit ⊕ Int)):=
 if x1<tables then
((O2 r3.1 x1 tables (o.Path.drop (Int.toNat x))).bind fun r4=>
 if((r4.2==0)&&(r4.1==d)) then
(.ok (.inr (.inr (0))))
else
(.ok (.inl (IntKind.wrap .i64 (x1+1)))))
else
(.ok (.inr (.inl (()))))
def Hl (x:Int):R (Int ⊕ (Unit ⊕ Int)):=
 .ok (.inl (IntKind.wrap .i64 (x+1)))
def Jx (d:(Vector Int 32))(tables:Int)(slots:Int)(o:Opening)(r2:(Vector Int 32))(x:Int):R (Int ⊕ (Unit ⊕ Int)):=
 if x<(IntKind.wrap .i64 ((o.Path.length:Int)+1)) then
(if(0:Int)≤x∧x≤(o.Path.length:Int) then
 if(0:Int)≤x∧x≤(o.Path.length:Int) then
 (O2 r2 o.Slot slots (o.Path.take (Int.toNat x))).bind fun r3=>
 if(r3.2 != 0) then
(.ok (.inl (IntKind.wrap .i64 (x+1))))
else
((loop (fun x1=>J8 d tables o x r3 x1) 0).bind (alt (fun _=>Hl x) (fun r=>.ok (.inr (.inr (r)))))) else .bad else .bad)
else
(.ok (.inr (.inl (()))))
def Md:R Int:=
 .ok 360
def L0 (d:(Vector Int 32))(airline:Int)(tables:Int)(slots:Int)(o:Opening):R Int:=
 (if(((((decide (tables<1))||(decide (tables > 8)))||(decide (slots<1)))||(decide (slots > 8)))||(o.Airline != airline)) then R.ok true else(K1 o.Airline o.Flight).bind fun r=>
 R.ok (!r)).bind (fun(b:Bool)=>(if((b||(decide (o.Slot<0)))||(decide (o.Slot≥slots))) then R.ok true else(Lt o.Cost).bind fun r1=>
 R.ok (!r1)).bind (fun(b1:Bool)=>if b1 then
(.ok 360)
else
((H7 o.Salt [o.Airline,o.Flight,o.Slot,o.Cost]).bind fun r2=>
 (loop (fun x=>Jx d tables slots o r2 x) 0).bind (alt (fun _=>Md) (fun r=>.ok r)))))
def L3 (c:Clearing)(o:Opening)(x:Bool):R Int:=
 if x then
(.ok 400)
else
((F1 c.Owners).bind fun r=>
 (I0 r.1 o.Airline).bind fun r1=>
 (idx c.Commitments r1).bind fun a1=>
 (L0 a1 o.Airline (Option.getD (Bv r.2 o.Airline) 0) c.Slots o).bind fun r2=>
 .ok r2)
def Je (c:Clearing)(o:Opening):R Int:=
 (I0 c.Flights o.Flight).bind fun i=>
 if(decide (i<0)) then
(L3 c o true)
else
((idx c.Owners i).bind fun a=>
 L3 c o (a != o.Airline))
def I5 (x1:Bool):R (Unit ⊕ Bool):=
 if x1 then
(.ok (.inr (false)))
else
(.ok (.inl ()))
def Ks (c:Clearing)(j:Nat)(a:Opening):R (Unit ⊕ Bool):=
 if(decide ((j:Int) > 0)) then
((idx c.Openings (IntKind.wrap .i64 ((j:Int) - 1))).bind fun a1=>
 (Mz a1 a).bind fun r=>
 if(decide (r≥0)) then
(I5 true)
else
((Je c a).bind fun r1=>
 I5 (r1 != 0)))
else
((Je c a).bind fun r2=>
 I5 (r2 != 0))
def Nu (c:Clearing):R Bool:=
 (each (fun j a=>fun _=>Ks c j a) 0 c.Openings ()).bind (alt (fun _=>.ok true) (fun r=>.ok r))
def Pz (c:Clearing):R Bool:=
 (Hg c).bind fun r=>
 (if r then(Nu c).bind fun r1=>
 R.ok r1 else R.ok false).bind (fun(b:Bool)=>.ok (b&&((c.Outcome.length:Int)==0)))
def Im (s:List Opening)(n:Int):R Unit:=
 if n<1 then
(.pan ⟨9,.str [99,97,110,110,111,116,32,98,101,32,108,101,115,115,32,116,104,97,110,32,49]⟩)
else
(.ok ())
section
variable {σ_:Type}
def E8 (b:List Opening)(c:Int)(b_:(List Opening)→σ_→R σ_)(i:Int)(s:σ_):R ((Int×σ_) ⊕ σ_):=
 if i<(b.length:Int) then
(if(0:Int)≤i∧i≤(b.length:Int) then
 if(0:Int)≤i∧i≤(IntKind.wrap .i64 (i+(if((b.drop (Int.toNat i)).length:Int)<c then((b.drop (Int.toNat i)).length:Int) else c)))∧(IntKind.wrap .i64 (i+(if((b.drop (Int.toNat i)).length:Int)<c then((b.drop (Int.toNat i)).length:Int) else c)))≤(b.length:Int) then
 (b_ (cut b i (IntKind.wrap .i64 (i+(if((b.drop (Int.toNat i)).length:Int)<c then((b.drop (Int.toNat i)).length:Int) else c)))) s).bind fun s1=>
 .ok (.inl ((IntKind.wrap .i64 (i+c)),s1)) else .bad else .bad)
else
(.ok (.inr (s)))
def Iv (s2:σ_):R σ_:=
 .ok s2
def F7 (b:List Opening)(c:Int)(b_:(List Opening)→σ_→R σ_)(s_:σ_):R σ_:=
 (loop (C7 fun i s=>E8 b c b_ i s) (0,s_)).bind (fun s2=>Iv s2)
end
def I8 (a1:Opening)(costs:List Int):R (List Int):=
 if(costs.length+[a1.Cost].length) * 8≤Bt then
 .ok (costs++[a1.Cost]) else .bad
def Jc (a:List Opening)(l:(List (List Int))):R (List (List Int)):=
 (eachS (fun _ a1=>fun costs=>I8 a1 costs) 0 a []).bind ((fun costs=>if(l.length+[costs].length) * 24≤Bt then
 .ok (l++[costs]) else .bad))
def Lu (c:Clearing):R (Round×Bool):=
 if((c.Openings.length:Int) != (IntKind.wrap .i64 ((c.Flights.length:Int) * c.Slots))) then
(.ok (({ Slots:=0,Owners:=[],Costs:=[] }:Round),false))
else
((Im c.Openings c.Slots).bind fun _=>
 (F7 c.Openings c.Slots (fun a z_=>R.np ((fun l=>Jc a l) z_)) []).bind (fun l=>.ok (({ Slots:=c.Slots,Owners:=c.Owners,Costs:=l }:Round),true)))
def Jd (n:Int)(most:Int):R Bool:=
 .ok ((decide (n<0))||(decide (n > most)))
def Lj (c:Int):R Bool:=
 (Jd (IntKind.wrap .i64 (c+1)) 1048577).bind fun r=>
 .ok r
def Gj (j:Nat)(a:Int):R (Unit ⊕ Int):=
 (Lj a).bind fun r=>
 if r then
(.ok (.inr ((j:Int))))
else
(.ok (.inl ()))
def H2 (s:List Int):R Int:=
 (each (fun j a=>fun _=>Gj j a) 0 s ()).bind (alt (fun _=>.ok (-1)) (fun r=>.ok r))
def E9 (s:List Int):R Bool:=
 (H2 s).bind fun r=>
 .ok (decide (r≥0))
def He (x1:Bool):R (Unit ⊕ Int):=
 if x1 then
(.ok (.inr (370)))
else
(.ok (.inl ()))
def Jj (r:Round)(j:Nat)(a:List Int):R (Unit ⊕ Int):=
 (idx r.Owners (j:Int)).bind fun a1=>
 (Jd a1 7).bind fun r1=>
 if r1 then
(He true)
else
(if((a.length:Int) != r.Slots) then
(He true)
else
((idx a (j:Int)).bind fun a2=>
 if(decide (a2<0)) then
(He true)
else
((E9 a).bind fun r2=>
 He r2)))
def Lr (r:Round):R Int:=
 if((((decide (r.Slots<1))||(decide (r.Slots > 8)))||(decide ((r.Owners.length:Int) > r.Slots)))||((r.Costs.length:Int) != (r.Owners.length:Int))) then
(.ok 370)
else
((each (fun j a=>fun _=>Jj r j a) 0 r.Costs ()).bind (alt (fun _=>.ok 0) (fun r=>.ok r)))
def Ih (r:Round):R Unit:=
 .ok ()
def Qv (s:List Int):R (List Int):=
 if(0:Int)≤(s.length:Int)∧(s.length:Int)≤(s.length:Int) then
 .ok (s.take (Int.toNat (s.length:Int))) else .bad
section
variable {σ_:Type}
def G7 (x:Int)(m2:(List (Int×Bool)))(s2:σ_):R ((Int×(List (Int×Bool))×σ_) ⊕ ((List (Int×Bool))×σ_)):=
 .ok (.inl ((IntKind.wrap .i64 (x+1)),(H3 m2 x false),s2))
def Ek (slots:List Int)(b:Round)(c:Round)(W_:(List Int)→Round→(List (Int×Bool))→Round→σ_→R ((List (Int×Bool))×σ_))(x:Int)(m1:(List (Int×Bool)))(s1:σ_):R ((Int×(List (Int×Bool))×σ_) ⊕ ((List (Int×Bool))×σ_)):=
 if x<b.Slots then
((if(Option.getD (Bv m1 x) false) then R.ok true else(idx b.Costs (slots.length:Int)).bind fun a=>
 (idx a x).bind fun a1=>
 R.ok (decide (a1<0))).bind (fun(b1:Bool)=>if b1 then
(.ok (.inl ((IntKind.wrap .i64 (x+1)),m1,s1)))
else
((Qv slots).bind fun r=>
 if [x].length≠0∧(r.length+[x].length) * 8≤Bt then
 (W_ (r++[x]) c (H3 m1 x true) c s1).bind fun r1=>
 G7 x r1.1 r1.2 else .bad)))
else
(.ok (.inr ((m1,s1))))
def G6 (m3:(List (Int×Bool)))(s3:σ_):R ((List (Int×Bool))×σ_):=
 .ok (m3,s3)
def Fw (W_:(List Int)→Round→(List (Int×Bool))→Round→σ_→R ((List (Int×Bool))×σ_))(slots:List Int)(b:Round)(m:(List (Int×Bool)))(c:Round)(b_:(List Int)→σ_→R σ_)(s_:σ_):R ((List (Int×Bool))×σ_):=
 if((slots.length:Int)==(b.Owners.length:Int)) then
((b_ slots s_).bind fun s=>
 .ok (m,s))
else
((loop (Nj fun x m1 s1=>Ek slots b c W_ x m1 s1) (0,m,s_)).bind (C7 fun m3 s3=>G6 m3 s3))
def D1 (b_:(List Int)→σ_→R σ_):Nat→(List Int)→Round→(List (Int×Bool))→Round→σ_→R ((List (Int×Bool))×σ_)
 | 0,_,_,_,_,_=>.bad
 | n+1,slots,b,m,c,s_=>R.np (Fw (D1 b_ n) slots b m c b_ s_)
def Ix (slots:List Int)(b:Round)(m:(List (Int×Bool)))(c:Round)(b_:(List Int)→σ_→R σ_)(s_:σ_):R ((List (Int×Bool))×σ_):=D1 b_ Sn slots b m c s_
end
section
variable {σ_:Type}
def F6 (b:Round)(b_:(List Int)→σ_→R σ_)(s_:σ_):R σ_:=
 (Ix [] b [] b b_ s_).bind fun r=>
 .ok r.2
def Gy (b:Round)(b_:(List Int)→σ_→R σ_)(s_:σ_):R σ_:=R.np (F6 b b_ s_)
end
def Lz (r:Round)(j:Nat)(a:Int)(v1:List Int):R (List Int):=
 (idx v1 0).bind fun a1=>
 (idx r.Costs (j:Int)).bind fun a2=>
 (idx a2 a).bind fun a3=>
 if(a != (j:Int)) then
((idx (v1.set (Int.toNat 0) (IntKind.wrap .i64 (a1+a3))) 1).bind fun a4=>
 .ok ((v1.set (Int.toNat 0) (IntKind.wrap .i64 (a1+a3))).set 1 (IntKind.wrap .i64 (a4+1))))
else
(.ok (v1.set (Int.toNat 0) (IntKind.wrap .i64 (a1+a3))))
def Mk (r:Round)(slots:List Int):R (List Int):=
 (eachS (fun j a=>fun v1=>Lz r j a v1) 0 slots [0,0]).bind ((fun v1=>.ok v1))
def I6 (s2:List Int)(j:Nat)(a:Int):R (Unit ⊕ Int):=
 if(j:Int)≥(s2.length:Int) then
(.ok (.inr (1)))
else
((idx s2 (j:Int)).bind fun a1=>
 (Js a a1).bind fun c=>
 if(c != 0) then
(.ok (.inr (c)))
else
(.ok (.inl ())))
def Lf (s1:List Int)(s2:List Int):R Int:=
 (each (fun j a=>fun _=>I6 s2 j a) 0 s1 ()).bind (alt (fun _=>if(s1.length:Int)<(s2.length:Int) then
(.ok (-1))
else
(.ok 0)) (fun r=>.ok r))
def Fm (s:List Int)(v:Int):R Bool:=
 (I0 s v).bind fun r=>
 .ok (decide (r≥0))
def Ht (r:Round)(slots:List Int)(j:Nat)(a:Int):R (Unit ⊕ Bool):=
 (if((decide (a<0))||(decide (a≥r.Slots))) then R.ok true else(idx r.Costs (j:Int)).bind fun a1=>
 (idx a1 a).bind fun a2=>
 R.ok (decide (a2<0))).bind (fun(b:Bool)=>(if b then R.ok true else if(0:Int)≤(j:Int)∧(j:Int)≤(slots.length:Int) then
 (Fm (slots.take (Int.toNat (j:Int))) a).bind fun r1=>
 R.ok r1 else .bad).bind (fun(b1:Bool)=>if b1 then
(.ok (.inr (false)))
else
(.ok (.inl ()))))
def L5 (r:Round)(slots:List Int):R Bool:=
 if((slots.length:Int) != (r.Owners.length:Int)) then
(.ok false)
else
((each (fun j a=>fun _=>Ht r slots j a) 0 slots ()).bind (alt (fun _=>.ok true) (fun r=>.ok r)))
def Oz (r:Round)(slots:List Int):R (Bool×Int):=
 (Lr r).bind fun e=>
 if(e != 0) then
(.ok (false,e))
else
((L5 r slots).bind fun ok=>
 .ok (ok,0))
def Qp (r:Round)(slots:List Int):R Int:=
 (Oz r slots).bind fun r1=>
 if((r1.2 != 0)||(!r1.1)) then
(.ok 370)
else
(.ok 0)
def Kr (j:Nat)(l:List Int):R (List Int):=
 if(l.length+[(j:Int)].length) * 8≤Bt then
 .ok (l++[(j:Int)]) else .bad
def Iy (r:Round):R (List Int):=
 (eachS (fun j _=>fun l=>Kr j l) 0 r.Owners []).bind ((fun l=>.ok l))
def Lg (r:Round)(slots:List Int)(j:Nat)(a:Int)(out:List Int):R (List Int):=
 (idx r.Owners a).bind fun a1=>
 (idx out a1).bind fun a2=>
 (idx r.Costs a).bind fun a3=>
 (idx slots (j:Int)).bind fun a4=>
 (idx a3 a4).bind fun a5=>
 .ok (out.set (Int.toNat a1) (IntKind.wrap .i64 (a2+a5)))
def Gx (r:Round)(flights:List Int)(slots:List Int):R (List Int):=
 if(0:Int)≤8∧(8:Int)≤8∧(Int.toNat 8) * 8≤Bt then
 (eachS (fun j a=>fun out=>Lg r slots j a out) 0 flights (List.replicate (Int.toNat 8) (0:Int))).bind ((fun out=>.ok out)) else .bad
def Jg (before:List Int)(j:Nat)(a:Int)(l:List Int):R (List Int):=
 (idx before (j:Int)).bind fun a1=>
 if a > a1 then
(if(l.length+[(j:Int)].length) * 8≤Bt then
 .ok (l++[(j:Int)]) else .bad)
else
(.ok l)
def Lp (r:Round)(slots:List Int):R ((List Int)×Int):=
 (Qp r slots).bind fun e=>
 if(e != 0) then
(.ok ([],e))
else
((Iy r).bind fun r1=>
 (Iy r).bind fun r2=>
 (Gx r r1 r2).bind fun before=>
 (Iy r).bind fun r3=>
 (Gx r r3 slots).bind fun r4=>
 (eachS (fun j a=>fun l=>Jg before j a l) 0 r4 []).bind ((fun l=>.ok (l,0))))
def Gq (r:Round)(l:List Int):R Unit:=
 .ok ()
def I1 (s:List Int):R (List Int):=if s.length * 8≤Bt then .ok s else .bad
section
variable {σ_ ε_:Type}
def Em (s3:σ_):R (σ_ ⊕ (σ_ ⊕ ε_)):=
 .ok (.inl s3)
def Fk (begin:List Int)(b:List Int)(d:Round)(c:List Int)(c1:Round)(W_:(List Int)→(List Int)→Round→(List Int)→Round→σ_→R (σ_ ⊕ ε_))(a:Int)(s1:σ_):R (σ_ ⊕ (σ_ ⊕ ε_)):=
 (idx b (begin.length:Int)).bind fun a1=>
 (idx d.Costs a1).bind fun a2=>
 (idx a2 a).bind fun a3=>
 if(decide (a3≥0)) then
((Fm begin a).bind fun r1=>
 if(!r1) then
(if(0:Int)≤(begin.length:Int)∧(begin.length:Int)≤(begin.length:Int) then
 if [a].length≠0∧((begin.take (Int.toNat (begin.length:Int))).length+[a].length) * 8≤Bt then
 (W_ ((begin.take (Int.toNat (begin.length:Int)))++[a]) c c1 c c1 s1).bind (alt (fun s2=>
 Em s2) (fun e1=>
 .ok (.inr ((Sum.inr (α:=σ_) e1))))) else .bad else .bad)
else
(Em s1))
else
(Em s1)
def Ft (W_:(List Int)→(List Int)→Round→(List Int)→Round→σ_→R (σ_ ⊕ ε_))(begin:List Int)(b:List Int)(d:Round)(c:List Int)(c1:Round)(b_:(List Int)→σ_→R (σ_ ⊕ ε_))(s_:σ_):R (σ_ ⊕ ε_):=
 if((begin.length:Int)==(b.length:Int)) then
((I1 begin).bind fun r=>
 (b_ r s_).bind (alt (fun s=>
 .ok (Sum.inl (β:=ε_) s)) (fun e=>
 .ok (Sum.inr (α:=σ_) e))))
else
((each (fun _ a=>fun s1=>Fk begin b d c c1 W_ a s1) 0 b s_).bind (alt (fun s1=>.ok (Sum.inl (β:=ε_) s1)) (fun r=>.ok r)))
def D0 (b_:(List Int)→σ_→R (σ_ ⊕ ε_)):Nat→(List Int)→(List Int)→Round→(List Int)→Round→σ_→R (σ_ ⊕ ε_)
 | 0,_,_,_,_,_,_=>.bad
 | n+1,begin,b,d,c,c1,s_=>R.np (Ft (D0 b_ n) begin b d c c1 b_ s_)
def It (begin:List Int)(b:List Int)(d:Round)(c:List Int)(c1:Round)(b_:(List Int)→σ_→R (σ_ ⊕ ε_))(s_:σ_):R (σ_ ⊕ ε_):=D0 b_ Sn begin b d c c1 s_
end
section
variable {σ_ ε_:Type}
def F4 (b:List Int)(c:Round)(b_:(List Int)→σ_→R (σ_ ⊕ ε_))(s_:σ_):R (σ_ ⊕ ε_):=
 (It [] b c b c b_ s_).bind (alt (fun s=>
 .ok (Sum.inl (β:=ε_) s)) (fun e=>
 .ok (Sum.inr (α:=σ_) e)))
def Fi (b:List Int)(c:Round)(b_:(List Int)→σ_→R (σ_ ⊕ ε_))(s_:σ_):R (σ_ ⊕ ε_):=R.np (F4 b c b_ s_)
end
def Ia (group:List Int)(j:Nat)(a:Int)(l:List Int):R (List Int):=
 (Fm group a).bind fun r1=>
 if r1 then
(if(l.length+[(j:Int)].length) * 8≤Bt then
 .ok (l++[(j:Int)]) else .bad)
else
(.ok l)
def Kn (than:List Int)(now:List Int)(a2:Int):R (Unit ⊕ Unit):=
 (idx now a2).bind fun a3=>
 (idx than a2).bind fun a4=>
 if a3≥a4 then
(.ok (.inr (())))
else
(.ok (.inl ()))
def Kk:R (Unit ⊕ (List Int)):=
 .ok (.inl ())
def Gv (r:Round)(than:List Int)(group:List Int)(l:List Int)(a1:List Int):R (Unit ⊕ (List Int)):=
 (Gx r l a1).bind fun now=>
 (each (fun _ a2=>fun _=>Kn than now a2) 0 group ()).bind (alt (fun _=>.ok (.inr a1)) (fun _=>Kk))
def Kz (r:Round)(than:List Int)(group:List Int):R ((List Int)×Bool):=
 (eachS (fun j a=>fun l=>Ia group j a l) 0 r.Owners []).bind ((fun l=>(Gq r l).bind fun _=>
 (Fi l r (fun a1 z_=>R.np ((fun _=>Gv r than group l a1) z_)) ()).bind (alt (fun _=>.ok ([],false)) (fun o=>.ok (o,true)))))
def Ib (r:Round)(j:Nat)(j1:Nat)(group:List Int):R ((List Int) ⊕ Unit):=
 if(0:Int)≤(j1:Int) then if((Ej .i64 (O9 .i64 (j:Int) (j1:Int)) 1)==0) then
(.ok (.inl group))
else
((Fm r.Owners (j1:Int)).bind fun r3=>
 if r3 then
(if(group.length+[(j1:Int)].length) * 8≤Bt then
 .ok (.inl (group++[(j1:Int)])) else .bad)
else
(.ok (.inr (())))) else .bad
def E0:R (Unit ⊕ (Bool×Int)):=
 .ok (.inl ())
def Ko (r:Round)(than:List Int)(j:Nat):R (Unit ⊕ (Bool×Int)):=
 (each (fun j1 _=>fun group=>Ib r j j1 group) 0 (List.range 8) []).bind (alt (fun group=>if((group.length:Int)==0) then
(E0)
else
((Kz r than group).bind fun r4=>
 if r4.2 then
(.ok (.inr ((false,0))))
else
(E0))) (fun _=>E0))
def Ez (r:Round)(slots:List Int):R (Bool×Int):=
 (Lp r slots).bind fun r1=>
 if((r1.2 != 0)||(decide ((r1.1.length:Int) > 0))) then
(.ok (false,r1.2))
else
((Iy r).bind fun r2=>
 (Gx r r2 slots).bind fun than=>
 (each (fun j _=>fun _=>Ko r than j) 0 (List.range 256) ()).bind (alt (fun _=>.ok (true,0)) (fun r=>.ok r)))
def K5 (r:Round)(a:List Int)(o:List Int)(o1:List Int):R ((List Int)×(List Int)):=
 (Mk r a).bind fun v=>
 (if(!List.isEmpty o1) then(Lf v o1).bind fun r2=>
 R.ok (decide (r2≥0)) else R.ok false).bind (fun(b:Bool)=>if b then
(.ok (o,o1))
else
((Ez r a).bind fun r3=>
 if((r3.2==0)&&r3.1) then
((I1 a).bind fun r4=>
 if v.length≠0 then
 .ok (r4,v) else .bad)
else
(.ok (o,o1))))
def Qc (r:Round):R ((List Int)×Int):=
 (Lr r).bind fun e=>
 if(e != 0) then
(.ok ([],e))
else
((Ih r).bind fun _=>
 (Gy r (fun a z_=>R.np ((C7 fun o o1=>K5 r a o o1) z_)) ([],[])).bind (C7 fun o o1=>if(List.isEmpty o1) then
(.ok ([],380))
else
(.ok (o,0))))
def Lq (j:Nat)(outcome:List Int):R (List Int):=
 if(outcome.length+[(j:Int)].length) * 8≤Bt then
 .ok (outcome++[(j:Int)]) else .bad
def Jt (r:Round):R ((List Int)×Int):=
 (Qc r).bind fun r1=>
 if(r1.2==0) then
(.ok (r1.1,3))
else
((eachS (fun j _=>fun outcome=>Lq j outcome) 0 r.Owners []).bind ((fun outcome=>.ok (outcome,4))))
def Kj (s2:List Int)(j:Nat)(a:Int):R (Unit ⊕ Bool):=
 (idx s2 (j:Int)).bind fun a1=>
 if(a != a1) then
(.ok (.inr (false)))
else
(.ok (.inl ()))
def Mw (s1:List Int)(s2:List Int):R Bool:=
 if((s1.length:Int) != (s2.length:Int)) then
(.ok false)
else
((each (fun j a=>fun _=>Kj s2 j a) 0 s1 ()).bind (alt (fun _=>.ok true) (fun r=>.ok r)))
def Ls (c:Clearing):R Bool:=
 (Hg c).bind fun r=>
 (if(!r) then R.ok true else(Nu c).bind fun r1=>
 R.ok (!r1)).bind (fun(b:Bool)=>if b then
(.ok false)
else
((Lu c).bind fun r2=>
 if r2.2 then
((Jt r2.1).bind fun r3=>
 (if(r3.2==c.Phase) then(Mw r3.1 c.Outcome).bind fun r4=>
 R.ok r4 else R.ok false).bind (fun(b1:Bool)=>.ok b1))
else
(.ok false)))
def Fc (x:Bool):R Int:=
 if x then
(.ok 400)
else
(.ok 0)
def G9 (c:Clearing):R Int:=
 (Qa c).bind fun r=>
 if(!r) then
(Fc true)
else
(if(decide (c.Phase<1)) then
(Fc true)
else
(if(decide (c.Phase > 4)) then
(Fc true)
else
(if c.Phase=0 then
(.bad)
else
(if c.Phase=1 then
((P1 c).bind fun r1=>
 Fc (!r1))
else
(if c.Phase=2 then
((Pz c).bind fun r2=>
 Fc (!r2))
else
(if c.Phase=3 then
((Ls c).bind fun r3=>
 Fc (!r3))
else
(if c.Phase=4 then
((Ls c).bind fun r4=>
 Fc (!r4))
else
(.bad))))))))
def Pm (no:Int)(slots:Int)(owners:List Int)(flights:List Int):R (Clearing×Int):=
 (F1 owners).bind fun r=>
 if(0:Int)≤(r.1.length:Int)∧((r.1.length:Int):Int)≤(r.1.length:Int)∧(Int.toNat (r.1.length:Int)) * 32≤Bt then
 (G9 ({ No:=no,Phase:=1,Slots:=slots,Owners:=owners,Flights:=flights,Commitments:=(List.replicate (Int.toNat (r.1.length:Int)) (B0 32 0)),Openings:=[],Outcome:=[] }:Clearing)).bind fun e=>
 if(e != 0) then
(.ok (({ No:=0,Phase:=0,Slots:=0,Owners:=[],Flights:=[],Commitments:=[],Openings:=[],Outcome:=[] }:Clearing),e))
else
(.ok (({ No:=no,Phase:=1,Slots:=slots,Owners:=owners,Flights:=flights,Commitments:=(List.replicate (Int.toNat (r.1.length:Int)) (B0 32 0)),Openings:=[],Outcome:=[] }:Clearing),0)) else .bad
def Nb (c:Int):R Bool:=
 (Lt c).bind fun r=>
 .ok (!r)
def Fb (j:Nat)(a:Int):R (Unit ⊕ Int):=
 (Nb a).bind fun r=>
 if r then
(.ok (.inr ((j:Int))))
else
(.ok (.inl ()))
def Kh (s:List Int):R Int:=
 (each (fun j a=>fun _=>Fb j a) 0 s ()).bind (alt (fun _=>.ok (-1)) (fun r=>.ok r))
def Gi (s:List Int):R Bool:=
 (Kh s).bind fun r=>
 .ok (decide (r≥0))
def Mx (t:Table):R Int:=
 (K1 t.Airline t.Flight).bind fun r=>
 (if(((!r)||(decide ((t.Costs.length:Int)<1)))||(decide ((t.Costs.length:Int) > 8))) then R.ok true else(Gi t.Costs).bind fun r1=>
 R.ok r1).bind (fun(b:Bool)=>if b then
(.ok 360)
else
(.ok 0))
def Gt (x1:Bool):R (Unit ⊕ Bool):=
 if x1 then
(.ok (.inr (false)))
else
(.ok (.inl ()))
def Kp (l:List Table)(j:Nat)(a:Table):R (Unit ⊕ Bool):=
 (Mx a).bind fun r=>
 if(r != 0) then
(Gt true)
else
((idx l 0).bind fun a1=>
 if(a.Airline != a1.Airline) then
(Gt true)
else
(if((a.Costs.length:Int) != (a1.Costs.length:Int)) then
(Gt true)
else
(if(decide ((j:Int) > 0)) then
((idx l (IntKind.wrap .i64 ((j:Int) - 1))).bind fun a2=>
 Gt (decide (a.Flight≤a2.Flight)))
else
(Gt false))))
def K0 (l:List Table):R Bool:=
 if((decide ((l.length:Int)<1))||(decide ((l.length:Int) > 8))) then
(.ok false)
else
((each (fun j a=>fun _=>Kp l j a) 0 l ()).bind (alt (fun _=>.ok true) (fun r=>.ok r)))
def Km (t:Table):R Unit:=
 .ok ()
section
variable {σ_:Type}
def F8 (b:Table)(b_:(Vector Int 32)→σ_→R σ_)(j:Nat)(a:Int)(s:σ_):R σ_:=
 (H7 b.Salt [b.Airline,b.Flight,(j:Int),a]).bind fun r=>
 (b_ r s).bind fun s1=>
 .ok s1
def Ju (b:Table)(b_:(Vector Int 32)→σ_→R σ_)(s_:σ_):R σ_:=
 (eachS (fun j a=>fun s=>F8 b b_ j a s) 0 b.Costs s_).bind ((fun s=>.ok s))
end
def J0 (a:(Vector Int 32))(l:(List (Vector Int 32))):R (List (Vector Int 32)):=
 if(l.length+[a].length) * 32≤Bt then
 .ok (l++[a]) else .bad
def Ka (t:Table):R (List (Vector Int 32)):=
 (Km t).bind fun _=>
 (Ju t (fun a z_=>R.np ((fun l=>J0 a l) z_)) []).bind (fun l=>.ok l)
def Sg (W_:(List (Vector Int 32))→R (Vector Int 32))(l:(List (Vector Int 32))):R (Vector Int 32):=
 if((l.length:Int)==0) then
((Ir [101,109,112,116,121] []).bind fun r=>
 .ok r)
else
(if((l.length:Int)==1) then
((idx l 0).bind fun a=>
 (Oq a).bind fun r1=>
 .ok r1)
else
((Gp (l.length:Int)).bind fun n=>
 if(0:Int)≤n∧n≤(l.length:Int) then
 if(0:Int)≤n∧n≤(l.length:Int) then
 (W_ (l.take (Int.toNat n))).bind fun r2=>
 (W_ (l.drop (Int.toNat n))).bind fun r3=>
 (Mf r2 r3).bind fun r4=>
 .ok r4 else .bad else .bad))
def Nq:Nat→(List (Vector Int 32))→R (Vector Int 32)
 | 0,_=>.bad
 | n+1,l=>Sg (Nq n) l
def Qj (l:(List (Vector Int 32))):R (Vector Int 32):=Nq Sn l
def Fs (a:Table)(d:(List (Vector Int 32))):R (List (Vector Int 32)):=
 (Ka a).bind fun r=>
 (Qj r).bind fun r1=>
 if(d.length+[r1].length) * 32≤Bt then
 .ok (d++[r1]) else .bad
def Hb (l:List Table):R (List (Vector Int 32)):=
 (eachS (fun _ a=>fun d=>Fs a d) 0 l []).bind ((fun d=>.ok d))
def Gs (l:List Table):R ((Vector Int 32)×Int):=
 (K0 l).bind fun r=>
 if r then
((Hb l).bind fun r1=>
 (Qj r1).bind fun r2=>
 .ok (r2,0))
else
(.ok ((B0 32 0),360))
def Nf (s:List (Vector Int 32)):R (List (Vector Int 32)):=if s.length * 32≤Bt then .ok s else .bad
def Hj (c:Clearing)(airline:Int)(d:(Vector Int 32)):R (Clearing×Int):=
 (G9 c).bind fun e=>
 if(e != 0) then
(.ok (({ No:=0,Phase:=0,Slots:=0,Owners:=[],Flights:=[],Commitments:=[],Openings:=[],Outcome:=[] }:Clearing),e))
else
((F1 c.Owners).bind fun r=>
 (I0 r.1 airline).bind fun i=>
 if((decide (i<0))||(d==(#v[0,0,0,0,0,0,0,0,0,0,0,0,0,0,0,0,0,0,0,0,0,0,0,0,0,0,0,0,0,0,0,0]:(Vector Int 32)))) then
(.ok (({ No:=0,Phase:=0,Slots:=0,Owners:=[],Flights:=[],Commitments:=[],Openings:=[],Outcome:=[] }:Clearing),400))
else
((idx c.Commitments i).bind fun a=>
 if(a==d) then
(.ok (c,0))
else
(if(a==(#v[0,0,0,0,0,0,0,0,0,0,0,0,0,0,0,0,0,0,0,0,0,0,0,0,0,0,0,0,0,0,0,0]:(Vector Int 32))) then
((Nf c.Commitments).bind fun r1=>
 (idx r1 i).bind fun a1=>
 (Hg ({ No:=c.No,Phase:=c.Phase,Slots:=c.Slots,Owners:=c.Owners,Flights:=c.Flights,Commitments:=(r1.set (Int.toNat i) d),Openings:=c.Openings,Outcome:=c.Outcome }:Clearing)).bind fun r2=>
 if r2 then
(.ok (({ No:=c.No,Phase:=2,Slots:=c.Slots,Owners:=c.Owners,Flights:=c.Flights,Commitments:=(r1.set (Int.toNat i) d),Openings:=c.Openings,Outcome:=c.Outcome }:Clearing),0))
else
(.ok (({ No:=c.No,Phase:=c.Phase,Slots:=c.Slots,Owners:=c.Owners,Flights:=c.Flights,Commitments:=(r1.set (Int.toNat i) d),Openings:=c.Openings,Outcome:=c.Outcome }:Clearing),0)))
else
(.ok (({ No:=0,Phase:=0,Slots:=0,Owners:=[],Flights:=[],Commitments:=[],Openings:=[],Outcome:=[] }:Clearing),400)))))
def Ip (i:Int)(j:Int)(s:(List (Vector Int 32))):R ((Int×Int×(List (Vector Int 32))) ⊕ (List (Vector Int 32))):=
 if i<j then
((idx s j).bind fun a=>
 (idx s i).bind fun a1=>
 (idx (s.set (Int.toNat i) a) j).bind fun a2=>
 .ok (.inl ((IntKind.wrap .i64 (i+1)),(IntKind.wrap .i64 (j - 1)),((s.set (Int.toNat i) a).set (Int.toNat j) a1))))
else
(.ok (.inr (s)))
def Iw (l1:(List (Vector Int 32))):R (List (Vector Int 32)):=
 .ok l1
def Gb (l:(List (Vector Int 32))):R (List (Vector Int 32)):=
 (loop (Nj fun i j s=>Ip i j s) (0,(IntKind.wrap .i64 ((l.length:Int) - 1)),l)).bind (fun l1=>Iw l1)
def Gr (l1:(List (Vector Int 32)))(vat1:Int)(p:(List (Vector Int 32))):R (((List (Vector Int 32))×Int×(List (Vector Int 32))) ⊕ (List (Vector Int 32))):=
 if(l1.length:Int) > 1 then
((Gp (l1.length:Int)).bind fun n=>
 if vat1<n then
(if(0:Int)≤n∧n≤(l1.length:Int) then
 if(0:Int)≤n∧n≤(l1.length:Int) then
 (Qj (l1.drop (Int.toNat n))).bind fun r=>
 if(p.length+[r].length) * 32≤Bt then
 .ok (.inl ((l1.take (Int.toNat n)),vat1,(p++[r]))) else .bad else .bad else .bad)
else
(if(0:Int)≤n∧n≤(l1.length:Int) then
 if(0:Int)≤n∧n≤(l1.length:Int) then
 (Qj (l1.take (Int.toNat n))).bind fun r1=>
 if(p.length+[r1].length) * 32≤Bt then
 .ok (.inl ((l1.drop (Int.toNat n)),(IntKind.wrap .i64 (vat1 - n)),(p++[r1]))) else .bad else .bad else .bad))
else
(.ok (.inr (p)))
def Pb (p1:(List (Vector Int 32))):R ((List (Vector Int 32))×Int):=
 (Gb p1).bind fun r2=>
 .ok (r2,0)
def Qi (l:(List (Vector Int 32)))(vat:Int):R ((List (Vector Int 32))×Int):=
 if((decide (vat<0))||(decide (vat≥(l.length:Int)))) then
(.ok ([],1))
else
((loop (Nj fun l1 vat1 p=>Gr l1 vat1 p) (l,vat,[])).bind (fun p1=>Pb p1))
def Gh (n:Int):R (List (Vector Int 32)):=
 if n<0 then
(.pan ⟨9,.str [99,97,110,110,111,116,32,98,101,32,110,101,103,97,116,105,118,101]⟩)
else
(if(IntKind.wrap .i64 (n - 0)) > 0 then
(if(0:Int)<(IntKind.wrap .i64 (n - 0))∧(Int.toNat (IntKind.wrap .i64 (n - 0))) * 32≤Bt then
 if(0:Int)≤0∧0≤((List.replicate (Int.toNat (IntKind.wrap .i64 (n - 0))) ((B0 32 0):(Vector Int 32))).length:Int) then
 .ok ((List.replicate (Int.toNat (IntKind.wrap .i64 (n - 0))) ((B0 32 0):(Vector Int 32))).take (Int.toNat 0)) else .bad else .bad)
else
(.ok []))
def Ga (a:(List (Vector Int 32)))(size:Int):R Int:=
 if(IntKind.wrap .i64 (size+(a.length:Int)))<0 then
(.pan ⟨9,.str [108,101,110,32,111,117,116,32,111,102,32,114,97,110,103,101]⟩)
else
(.ok (IntKind.wrap .i64 (size+(a.length:Int))))
def F9 (a1:(List (Vector Int 32)))(newslice1:(List (Vector Int 32))):R (List (Vector Int 32)):=
 if(newslice1.length+a1.length) * 32≤Bt then
 .ok (newslice1++a1) else .bad
def Hk (slices:(List (List (Vector Int 32)))):R (List (Vector Int 32)):=
 (eachS (fun _ a=>fun size=>Ga a size) 0 slices 0).bind ((fun size=>(Gh size).bind fun newslice=>
 (eachS (fun _ a1=>fun newslice1=>F9 a1 newslice1) 0 slices newslice).bind ((fun newslice1=>.ok newslice1))))
def J1 (l:List Table)(vat:Int)(slot:Int):R (Opening×Int):=
 (K0 l).bind fun r=>
 (if((((!r)||(decide (vat<0)))||(decide (vat≥(l.length:Int))))||(decide (slot<0))) then R.ok true else(idx l 0).bind fun a=>
 R.ok (decide (slot≥(a.Costs.length:Int)))).bind (fun(b:Bool)=>if b then
(.ok (({ Airline:=0,Flight:=0,Slot:=0,Cost:=0,Salt:=(B0 32 0),Path:=[] }:Opening),360))
else
((idx l vat).bind fun a1=>
 (Ka a1).bind fun r1=>
 (Qi r1 slot).bind fun r2=>
 (Hb l).bind fun r3=>
 (Qi r3 vat).bind fun r4=>
 (idx a1.Costs slot).bind fun a2=>
 (Hk [r2.1,r4.1]).bind fun r5=>
 .ok (({ Airline:=a1.Airline,Flight:=a1.Flight,Slot:=slot,Cost:=a2,Salt:=a1.Salt,Path:=r5 }:Opening),0)))
def Cs (a:List Opening)(target:Opening)(i:Int)(j:Int):R ((Int×Int) ⊕ Int):=
 if i<j then
((idx a (IntKind.wrap .i64 (Int.fdiv (IntKind.wrap .u64 (IntKind.wrap .i64 (i+j))) 2))).bind fun a1=>
 (Mz a1 target).bind fun r=>
 if r<0 then
(.ok (.inl ((IntKind.wrap .i64 ((IntKind.wrap .i64 (Int.fdiv (IntKind.wrap .u64 (IntKind.wrap .i64 (i+j))) 2))+1)),j)))
else
(.ok (.inl (i,(IntKind.wrap .i64 (Int.fdiv (IntKind.wrap .u64 (IntKind.wrap .i64 (i+j))) 2))))))
else
(.ok (.inr (i)))
def Dr (a:List Opening)(target:Opening)(i1:Int):R (Int×Bool):=
 if(decide (i1<(a.length:Int))) then
((idx a i1).bind fun a2=>
 (Mz a2 target).bind fun r1=>
 .ok (i1,(r1==0)))
else
(.ok (i1,false))
def D3 (a:List Opening)(target:Opening):R (Int×Bool):=
 (loop (C7 fun i j=>Cs a target i j) (0,(a.length:Int))).bind (fun i1=>Dr a target i1)
def L7 (s:List Opening):R (List Opening):=if s.length * 88≤Bt then .ok s else .bad
def Pv (i:Int)(l:List Opening)(l2:List Opening):R (List Opening):=Rd 88 l i l2
def I3 (r:(Int×Bool))(y2:List Opening):R (Int×Bool×(List Opening)):=
 .ok (r.1,false,y2)
def G8 (l:List Opening)(b:Opening):R (Int×Bool×(List Opening)):=
 (D3 l b).bind fun r=>
 if r.2 then
(.ok (r.1,true,l))
else
((L7 l).bind fun r1=>
 (Pv r.1 r1 [b]).bind fun y=>
 I3 r y)
def Ic (s2:(List (Vector Int 32)))(j:Nat)(a:(Vector Int 32)):R (Unit ⊕ Bool):=
 (idx s2 (j:Int)).bind fun a1=>
 if(a==a1) then
(.ok (.inl ()))
else
(.ok (.inr (false)))
def Kl (s1:(List (Vector Int 32)))(s2:(List (Vector Int 32))):R Bool:=
 if((s1.length:Int) != (s2.length:Int)) then
(.ok false)
else
((each (fun j a=>fun _=>Ic s2 j a) 0 s1 ()).bind (alt (fun _=>.ok true) (fun r=>.ok r)))
def R8 (a:Opening)(b:Opening):R Bool:=
 (if(((((a.Airline==b.Airline)&&(a.Flight==b.Flight))&&(a.Slot==b.Slot))&&(a.Cost==b.Cost))&&(a.Salt==b.Salt)) then(Kl a.Path b.Path).bind fun r=>
 R.ok r else R.ok false).bind (fun(b1:Bool)=>.ok b1)
def Mm (c:Clearing)(r:(Int×Bool×(List Opening)))(x:Bool):R (Clearing×Int):=
 if x then
(.ok (({ No:=0,Phase:=0,Slots:=0,Owners:=[],Flights:=[],Commitments:=[],Openings:=[],Outcome:=[] }:Clearing),400))
else
(.ok (({ No:=c.No,Phase:=c.Phase,Slots:=c.Slots,Owners:=c.Owners,Flights:=c.Flights,Commitments:=c.Commitments,Openings:=r.2.2,Outcome:=c.Outcome }:Clearing),0))
def Jn (c:Clearing)(o:Opening):R (Clearing×Int):=
 (G9 c).bind fun e=>
 if(e != 0) then
(.ok (({ No:=0,Phase:=0,Slots:=0,Owners:=[],Flights:=[],Commitments:=[],Openings:=[],Outcome:=[] }:Clearing),e))
else
(if(c.Phase==1) then
(.ok (({ No:=0,Phase:=0,Slots:=0,Owners:=[],Flights:=[],Commitments:=[],Openings:=[],Outcome:=[] }:Clearing),401))
else
((Je c o).bind fun e1=>
 if(e1 != 0) then
(.ok (({ No:=0,Phase:=0,Slots:=0,Owners:=[],Flights:=[],Commitments:=[],Openings:=[],Outcome:=[] }:Clearing),e1))
else
((G8 c.Openings o).bind fun r=>
 if r.2.1 then
((idx c.Openings r.1).bind fun a=>
 (R8 a o).bind fun r1=>
 Mm c r (!r1))
else
(Mm c r false))))
def Tv (i:Int)(o:Clearing)(o1:Table):R ((Int×Int×Clearing) ⊕ ((Int×Clearing) ⊕ (Clearing×Bool))):=
 if i≤2 then
((Gs [o1]).bind fun r1=>
 if(r1.2 != 0) then
(.ok (.inr (.inr ((o,false)))))
else
((Hj o o1.Airline r1.1).bind fun r2=>
 .ok (.inl (r2.2,(IntKind.wrap .i64 (i+1)),r2.1))))
else
((J1 [o1] 0 (IntKind.wrap .i64 (Int.tdiv (IntKind.wrap .i64 (i - 3)) 2))).bind fun r3=>
 if(r3.2 != 0) then
(.ok (.inr (.inr ((o,false)))))
else
((Jn o r3.1).bind fun r4=>
 .ok (.inl (r4.2,(IntKind.wrap .i64 (i+1)),r4.1))))
def To (steps:Int)(e:Int)(i:Int)(o:Clearing):R ((Int×Int×Clearing) ⊕ ((Int×Clearing) ⊕ (Clearing×Bool))):=
 if((decide (i≤steps))&&(e==0)) then
(if((Int.tmod i 2)==0) then
(Tv i o ({ Airline:=3,Flight:=9,Costs:=[2,6],Salt:=(B0 32 0) }:Table))
else
(Tv i o ({ Airline:=0,Flight:=5,Costs:=[4,1],Salt:=(B0 32 0) }:Table)))
else
(.ok (.inr (.inl ((e,o)))))
def T3 (e1:Int)(o2:Clearing):R (Clearing×Bool):=
 .ok (o2,(e1==0))
def Xu (steps:Int):R (Clearing×Bool):=
 (Pm 1 2 [0,3] [5,9]).bind fun r=>
 (loop (Nj fun e i o=>To steps e i o) (r.2,1,r.1)).bind (alt (C7 fun e1 o2=>T3 e1 o2) (fun r=>.ok r))
def O8 (c:Clearing):R (Round×Int):=
 (G9 c).bind fun e=>
 if(e != 0) then
(.ok (({ Slots:=0,Owners:=[],Costs:=[] }:Round),e))
else
((Lu c).bind fun r=>
 if r.2 then
(.ok (r.1,0))
else
(.ok (({ Slots:=0,Owners:=[],Costs:=[] }:Round),401)))
def Ii (c:Clearing):R (Clearing×Int):=
 (O8 c).bind fun r=>
 if(r.2 != 0) then
(.ok (({ No:=0,Phase:=0,Slots:=0,Owners:=[],Flights:=[],Commitments:=[],Openings:=[],Outcome:=[] }:Clearing),r.2))
else
(if(c.Phase==2) then
((Jt r.1).bind fun r1=>
 .ok (({ No:=c.No,Phase:=r1.2,Slots:=c.Slots,Owners:=c.Owners,Flights:=c.Flights,Commitments:=c.Commitments,Openings:=c.Openings,Outcome:=r1.1 }:Clearing),0))
else
(.ok (c,0)))
def Mt (n:Int)(lo:Int)(hi:Int):R Bool:=
 .ok ((decide (lo≤n))&&(decide (n≤hi)))
def Hp (m:(List (Int×Bool)))(a:Lease)(x1:Bool):R ((List (Int×Bool)) ⊕ Int):=
 if x1 then
(.ok (.inr (350)))
else
(.ok (.inl (H3 m a.Token true)))
def Rx (l:Leases)(j:Nat)(a:Lease)(m:(List (Int×Bool))):R ((List (Int×Bool)) ⊕ Int):=
 (Mt a.Slot 0 4095).bind fun r1=>
 if(!r1) then
(Hp m a true)
else
((Mt a.Airline 0 7).bind fun r2=>
 if(!r2) then
(Hp m a true)
else
((Mt a.Flight 0 4095).bind fun r3=>
 if(!r3) then
(Hp m a true)
else
((Mt a.Token 1 l.Token).bind fun r4=>
 if(!r4) then
(Hp m a true)
else
(if(decide ((j:Int) > 0)) then
((idx l.List (IntKind.wrap .i64 ((j:Int) - 1))).bind fun a1=>
 if(decide (a1.Slot≥a.Slot)) then
(Hp m a true)
else
(Hp m a (Option.getD (Bv m a.Token) false)))
else
(Hp m a (Option.getD (Bv m a.Token) false))))))
def Yg (l:Leases):R Int:=
 (Mt l.Token 0 1048576).bind fun r=>
 if r then
((each (fun j a=>fun m=>Rx l j a m) 0 l.List []).bind (alt (fun m=>.ok 0) (fun r=>.ok r)))
else
(.ok 350)
def Ul (a:Lease)(b:Int):R Bool:=
 .ok (a.Slot==b)
def Hn (s1:Int)(j:Nat)(a:Lease):R (Unit ⊕ Int):=
 (Ul a s1).bind fun r=>
 if r then
(.ok (.inr ((j:Int))))
else
(.ok (.inl ()))
def Jk (s:List Lease)(s1:Int):R Int:=
 (each (fun j a=>fun _=>Hn s1 j a) 0 s ()).bind (alt (fun _=>.ok (-1)) (fun r=>.ok r))
def Uy (l:Leases)(slot:Int):R (Lease×Bool):=
 (Jk l.List slot).bind fun i=>
 if i<0 then
(.ok (({ Slot:=0,Airline:=0,Flight:=0,Token:=0,Used:=false }:Lease),false))
else
((idx l.List i).bind fun a=>
 .ok (a,true))
def Kw (x:Int)(x1:Bool):R (Int ⊕ (Unit ⊕ Bool)):=
 if x1 then
(.ok (.inr (.inr (false))))
else
(.ok (.inl (IntKind.wrap .i64 (x+1))))
def Rn (c:Clearing)(l:Leases)(x:Int):R (Int ⊕ (Unit ⊕ Bool)):=
 if x<c.Slots then
((Uy l x).bind fun r1=>
 if(!(r1.2==(decide (x<(c.Flights.length:Int))))) then
(Kw x true)
else
(if r1.2 then
((idx c.Owners x).bind fun a=>
 if(r1.1.Airline != a) then
(Kw x true)
else
((idx c.Flights x).bind fun a1=>
 if(r1.1.Flight != a1) then
(Kw x true)
else
(Kw x r1.1.Used)))
else
(Kw x false)))
else
(.ok (.inr (.inl (()))))
def Rk:R Bool:=
 .ok true
def X8 (c:Clearing)(l:Leases):R Bool:=
 (Yg l).bind fun r=>
 if(r != 0) then
(.ok false)
else
((loop (fun x=>Rn c l x) 0).bind (alt (fun _=>Rk) (fun r=>.ok r)))
def N2 (c:Clearing)(l:Leases)(j:Nat)(a:Int)(x1:List Command):R (List Command):=
 if(a==(j:Int)) then
(.ok x1)
else
((idx c.Owners (j:Int)).bind fun a1=>
 (idx c.Flights (j:Int)).bind fun a2=>
 (Uy l a).bind fun r1=>
 if r1.2 then
(if(x1.length+[({ Kind:=2,Slot:=a,Airline:=a1,Flight:=a2,Token:=r1.1.Token }:Command)].length) * 40≤Bt then
 .ok (x1++[({ Kind:=2,Slot:=a,Airline:=a1,Flight:=a2,Token:=r1.1.Token }:Command)]) else .bad)
else
(if(x1.length+[({ Kind:=1,Slot:=a,Airline:=a1,Flight:=a2,Token:=0 }:Command)].length) * 40≤Bt then
 .ok (x1++[({ Kind:=1,Slot:=a,Airline:=a1,Flight:=a2,Token:=0 }:Command)]) else .bad))
def Qx (c:Clearing)(l:Leases):R ((List Command)×Int):=
 (G9 c).bind fun e=>
 if(e != 0) then
(.ok ([],e))
else
(if((c.Phase != 3)&&(c.Phase != 4)) then
(.ok ([],401))
else
((X8 c l).bind fun r=>
 if r then
((eachS (fun j a=>fun x1=>N2 c l j a x1) 0 c.Outcome []).bind ((fun x1=>.ok (x1,0))))
else
(.ok ([],400))))
def L1 (b:List Int)(j:Nat)(a1:Int):R (Unit ⊕ Bool):=
 (idx b (j:Int)).bind fun a2=>
 if(a1 != a2) then
(.ok (.inr (false)))
else
(.ok (.inl ()))
def Fv (a:List Int)(b:List Int):R Bool:=
 if((a.length:Int) != (b.length:Int)) then
(.ok false)
else
((each (fun j a1=>fun _=>L1 b j a1) 0 a ()).bind (alt (fun _=>.ok true) (fun r=>.ok r)))
def N3 (b:Round)(j:Nat)(a1:List Int):R (Unit ⊕ Bool):=
 (idx b.Costs (j:Int)).bind fun a2=>
 (Fv a1 a2).bind fun r1=>
 if r1 then
(.ok (.inl ()))
else
(.ok (.inr (false)))
def Tq (a:Round)(b:Round):R Bool:=
 (if(a.Slots != b.Slots) then R.ok true else(Fv a.Owners b.Owners).bind fun r=>
 R.ok (!r)).bind (fun(b1:Bool)=>if(b1||((a.Costs.length:Int) != (b.Costs.length:Int))) then
(.ok false)
else
((each (fun j a1=>fun _=>N3 b j a1) 0 a.Costs ()).bind (alt (fun _=>.ok true) (fun r=>.ok r))))
def Ll (b:List Command)(j:Nat)(a1:Command):R (Unit ⊕ Bool):=
 (idx b (j:Int)).bind fun a2=>
 if((a1.Kind==a2.Kind)&&((a1.Slot==a2.Slot)&&((a1.Airline==a2.Airline)&&((a1.Flight==a2.Flight)&&(a1.Token==a2.Token))))) then
(.ok (.inl ()))
else
(.ok (.inr (false)))
def Rg (a:List Command)(b:List Command):R Bool:=
 if((a.length:Int) != (b.length:Int)) then
(.ok false)
else
((each (fun j a1=>fun _=>Ll b j a1) 0 a ()).bind (alt (fun _=>.ok true) (fun r=>.ok r)))
def Tf:R Bool:=
 (Pm 1 2 [0,1,2] [0,1,2]).bind fun r=>
 (Xu 0).bind fun r1=>
 (Hj r1.1 1 (#v[1,0,0,0,0,0,0,0,0,0,0,0,0,0,0,0,0,0,0,0,0,0,0,0,0,0,0,0,0,0,0,0]:(Vector Int 32))).bind fun r2=>
 (Ii r1.1).bind fun r3=>
 (Qx r1.1 ({ Token:=0,List:=[] }:Leases)).bind fun r4=>
 (Jn r1.1 ({ Airline:=0,Flight:=0,Slot:=0,Cost:=0,Salt:=(B0 32 0),Path:=[] }:Opening)).bind fun r5=>
 (Xu 6).bind fun r6=>
 (O8 r6.1).bind fun r7=>
 (Ii r6.1).bind fun r8=>
 (Qx r8.1 ({ Token:=2,List:=[({ Slot:=0,Airline:=0,Flight:=5,Token:=1,Used:=false }:Lease),({ Slot:=1,Airline:=3,Flight:=9,Token:=2,Used:=false }:Lease)] }:Leases)).bind fun r9=>
 (if(((((((((((((r.2 != 400)||(!r1.2))||(!r6.2))||(r2.2 != 400))||(r3.2 != 401))||(r4.2 != 401))||(r5.2 != 401))||(r7.2 != 0))||(r8.2 != 0))||(r9.2 != 0))||(r1.1.Phase != 1))||(r6.1.Phase != 2))||(r8.1.Phase != 3)) then R.ok true else(G9 r8.1).bind fun r10=>
 R.ok (r10 != 0)).bind (fun(b:Bool)=>if b then
(.ok false)
else
((Tq r7.1 ({ Slots:=2,Owners:=[0,3],Costs:=[[4,1],[2,6]] }:Round)).bind fun r11=>
 (if r11 then(Fv r8.1.Outcome [1,0]).bind fun r12=>
 R.ok r12 else R.ok false).bind (fun(b1:Bool)=>(if b1 then(Rg r9.1 [({ Kind:=2,Slot:=1,Airline:=0,Flight:=5,Token:=2 }:Command),({ Kind:=2,Slot:=0,Airline:=3,Flight:=9,Token:=1 }:Command)]).bind fun r13=>
 R.ok r13 else R.ok false).bind (fun(b2:Bool)=>.ok b2))))
def Mo (slots1:Int)(x1:Int)(l:List Int)(c:Int):R ((Int×Int×(List Int)) ⊕ ((Int×(List Int)) ⊕ ((List Int)×(List Int)×Int×(List (Int×(List Table)))×Bool))):=
 if((decide (c<(-1)))||(decide (c > 1048576))) then
(.ok (.inr (.inr (([],[],0,[],false)))))
else
(if(l.length+[c].length) * 8≤Bt then
 .ok (.inl (slots1,(IntKind.wrap .i64 (x1+1)),(l++[c]))) else .bad)
def K3 (p:T25)(slots:Int)(j:Nat)(slots1:Int)(x1:Int)(l:List Int):R ((Int×Int×(List Int)) ⊕ ((Int×(List Int)) ⊕ ((List Int)×(List Int)×Int×(List (Int×(List Table)))×Bool))):=
 if x1<slots then
((idx p.Costs (j:Int)).bind fun a2=>
 if x1<(a2.length:Int) then
((idx a2 x1).bind fun a3=>
 Mo slots1 x1 l a3)
else
(Mo slots1 x1 l 0))
else
(.ok (.inr (.inl ((slots1,l)))))
def Mh (m:(List (Int×(List Table))))(owners:List Int)(flights:List Int)(j:Nat)(a:Int)(vSalt:(Vector Int 32))(slots2:Int)(l1:List Int):R ((Int×(List (Int×(List Table)))×(List Int)×(List Int)) ⊕ ((List Int)×(List Int)×Int×(List (Int×(List Table)))×Bool)):=
 if((Option.getD (Bv m (Int.tmod (IntKind.wrap .i64 a) 8)) []).length+[({ Airline:=(Int.tmod (IntKind.wrap .i64 a) 8),Flight:=(IntKind.wrap .i64 (10+(j:Int))),Costs:=l1,Salt:=vSalt }:Table)].length) * 72≤Bt then
 .ok (.inl (slots2,(H3 m (Int.tmod (IntKind.wrap .i64 a) 8) ((Option.getD (Bv m (Int.tmod (IntKind.wrap .i64 a) 8)) [])++[({ Airline:=(Int.tmod (IntKind.wrap .i64 a) 8),Flight:=(IntKind.wrap .i64 (10+(j:Int))),Costs:=l1,Salt:=vSalt }:Table)])),(owners++[(Int.tmod (IntKind.wrap .i64 a) 8)]),(flights++[(IntKind.wrap .i64 (10+(j:Int)))]))) else .bad
def Mq (p:T25)(slots:Int)(m:(List (Int×(List Table))))(owners:List Int)(flights:List Int)(j:Nat)(a:Int)(vSalt:(Vector Int 32)):R ((Int×(List (Int×(List Table)))×(List Int)×(List Int)) ⊕ ((List Int)×(List Int)×Int×(List (Int×(List Table)))×Bool)):=
 (loop (Nj fun slots1 x1 l=>K3 p slots j slots1 x1 l) (slots,0,[])).bind (alt (C7 fun slots2 l1=>Mh m owners flights j a vSalt slots2 l1) (fun r=>.ok (.inr (r))))
def Mj (p:T25)(j:Nat)(a:Int)(slots:Int)(m:(List (Int×(List Table))))(owners:List Int)(flights:List Int):R ((Int×(List (Int×(List Table)))×(List Int)×(List Int)) ⊕ ((List Int)×(List Int)×Int×(List (Int×(List Table)))×Bool)):=
 if(owners.length+[(Int.tmod (IntKind.wrap .i64 a) 8)].length) * 8≤Bt then
 if(flights.length+[(IntKind.wrap .i64 (10+(j:Int)))].length) * 8≤Bt then
 if(j:Int)<(p.Salts.length:Int) then
((idx p.Salts (j:Int)).bind fun a1=>
 Mq p slots m owners flights j a a1)
else
(Mq p slots m owners flights j a (B0 32 0)) else .bad else .bad
def Om (p:T25):R ((List Int)×(List Int)×Int×(List (Int×(List Table)))×Bool):=
 if((((decide ((p.Owners.length:Int)<1))||(decide ((p.Owners.length:Int) > 4)))||(decide ((p.Owners.length:Int) > (IntKind.wrap .i64 ((Int.tmod (IntKind.wrap .i64 p.Slots) 5)+1)))))||((p.Costs.length:Int) != (p.Owners.length:Int))) then
(.ok ([],[],0,[],false))
else
((each (fun j a=>un4 fun slots m owners flights=>Mj p j a slots m owners flights) 0 p.Owners ((IntKind.wrap .i64 ((Int.tmod (IntKind.wrap .i64 p.Slots) 5)+1)),[],[],[])).bind (alt (un4 fun slots m owners flights=>.ok (owners,flights,slots,m,true)) (fun r=>.ok r)))
def J6 (a:(Int×(List Table))):R (Unit ⊕ Bool):=
 (Gs a.2).bind fun r=>
 if((r.2==0)&&(r.1==(#v[0,0,0,0,0,0,0,0,0,0,0,0,0,0,0,0,0,0,0,0,0,0,0,0,0,0,0,0,0,0,0,0]:(Vector Int 32)))) then
(.ok (.inr (true)))
else
(.ok (.inl ()))
def Q5 (tables:(List (Int×(List Table)))):R Bool:=
 (Z1 (fun a=>fun _=>J6 a) tables ()).bind (alt (fun _=>.ok false) (fun r=>.ok r))
def Jq (n:Int)(s:List Int):R (Int×(List Int)):=
 if(((s.length:Int)==0)||(n==0)) then
(.ok (0,s))
else
((idx s 0).bind fun a=>
 if n≠0 then if(0:Int)≤1∧1≤(s.length:Int) then
 .ok ((Int.tmod (IntKind.wrap .i64 a) n),(s.drop 1)) else .bad else .bad)
def Jo (r:((List Int)×(List Int)×Int×(List (Int×(List Table)))×Bool))(r1:(Clearing×Int))(j:Nat)(j1:Nat)(x5:Int)(x6:List Opening):R ((Int×(List Opening)) ⊕ ((List Opening) ⊕ (Clearing×Bool))):=
 if x5<r.2.2.1 then
((J1 (Option.getD (Bv r.2.2.2.1 (j:Int)) []) (j1:Int) x5).bind fun r2=>
 if(r2.2 != 0) then
(.ok (.inr (.inr ((r1.1,false)))))
else
(if(x6.length+[r2.1].length) * 88≤Bt then
 .ok (.inl ((IntKind.wrap .i64 (x5+1)),(x6++[r2.1]))) else .bad))
else
(.ok (.inr (.inl (x6))))
def Qt (x7:List Opening):R ((List Opening) ⊕ (Clearing×Bool)):=
 .ok (.inl x7)
def Lo (r:((List Int)×(List Int)×Int×(List (Int×(List Table)))×Bool))(r1:(Clearing×Int))(j:Nat)(j1:Nat)(x4:List Opening):R ((List Opening) ⊕ (Clearing×Bool)):=
 (loop (C7 fun x5 x6=>Jo r r1 j j1 x5 x6) (0,x4)).bind (alt (fun x7=>Qt x7) (fun r=>.ok (.inr (r))))
def Jv (r:((List Int)×(List Int)×Int×(List (Int×(List Table)))×Bool))(r1:(Clearing×Int))(j:Nat)(x1:List Int)(x2:List Opening):R (((List Int)×(List Opening)) ⊕ (Clearing×Bool)):=
 if(((Option.getD (Bv r.2.2.2.1 (j:Int)) []).length:Int)==0) then
(.ok (.inl (x1,x2)))
else
(if(x1.length+[(j:Int)].length) * 8≤Bt then
 (each (fun j1 _=>fun x4=>Lo r r1 j j1 x4) 0 (Option.getD (Bv r.2.2.2.1 (j:Int)) []) x2).bind (alt (fun x4=>.ok (.inl ((x1++[(j:Int)]),x4))) (fun r=>.ok (.inr (r)))) else .bad)
def H9 (r:((List Int)×(List Int)×Int×(List (Int×(List Table)))×Bool))(x8:List Int)(o:List Int)(o1:Clearing):R (((List Int)×(List Int)×Clearing) ⊕ (((List Int)×Clearing) ⊕ (Clearing×Bool))):=
 if(x8.length:Int) > 0 then
((Jq (x8.length:Int) o).bind fun r3=>
 (idx x8 r3.1).bind fun a3=>
 (Gs (Option.getD (Bv r.2.2.2.1 a3) [])).bind fun r4=>
 if(r4.2 != 0) then
(.ok (.inr (.inr ((o1,false)))))
else
((Hj o1 a3 r4.1).bind fun r5=>
 if(r5.2 != 0) then
(.ok (.inr (.inr ((r5.1,false)))))
else
(if(0:Int)≤r3.1∧r3.1≤(x8.length:Int) then
 if(0:Int)≤(IntKind.wrap .i64 (r3.1+1))∧(IntKind.wrap .i64 (r3.1+1))≤(x8.length:Int) then
 if(x8.take (Int.toNat r3.1)).length * 8≤Bt then
 if((x8.take (Int.toNat r3.1)).length+(x8.drop (Int.toNat (IntKind.wrap .i64 (r3.1+1)))).length) * 8≤Bt then
 .ok (.inl (((x8.take (Int.toNat r3.1))++(x8.drop (Int.toNat (IntKind.wrap .i64 (r3.1+1))))),r3.2,r5.1)) else .bad else .bad else .bad else .bad)))
else
(.ok (.inr (.inl ((o,o1)))))
def Lm (x9:List Opening)(o4:List Int)(o5:Clearing):R (((List Opening)×(List Int)×Clearing) ⊕ (Clearing ⊕ (Clearing×Bool))):=
 if(x9.length:Int) > 0 then
((Jq (x9.length:Int) o4).bind fun r6=>
 (idx x9 r6.1).bind fun a4=>
 (Jn o5 a4).bind fun r7=>
 if(r7.2 != 0) then
(.ok (.inr (.inr ((r7.1,false)))))
else
(if(0:Int)≤r6.1∧r6.1≤(x9.length:Int) then
 if(0:Int)≤(IntKind.wrap .i64 (r6.1+1))∧(IntKind.wrap .i64 (r6.1+1))≤(x9.length:Int) then
 if(x9.take (Int.toNat r6.1)).length * 88≤Bt then
 if((x9.take (Int.toNat r6.1)).length+(x9.drop (Int.toNat (IntKind.wrap .i64 (r6.1+1)))).length) * 88≤Bt then
 .ok (.inl (((x9.take (Int.toNat r6.1))++(x9.drop (Int.toNat (IntKind.wrap .i64 (r6.1+1))))),r6.2,r7.1)) else .bad else .bad else .bad else .bad))
else
(.ok (.inr (.inl (o5))))
def Qr (o6:Clearing):R (Clearing×Bool):=
 .ok (o6,true)
def J4 (r:((List Int)×(List Int)×Int×(List (Int×(List Table)))×Bool))(x2:List Opening)(o2:List Int)(o3:Clearing):R (Clearing×Bool):=
 (loop (Nj fun x9 o4 o5=>Lm x9 o4 o5) (x2,o2,o3)).bind (alt (fun o6=>Qr o6) (fun r=>.ok r))
def O0 (a:T25)(b:List Int):R (Clearing×Bool):=
 (Om a).bind fun r=>
 if r.2.2.2.2 then
((Pm 7 r.2.2.1 r.1 r.2.1).bind fun r1=>
 if(r1.2 != 0) then
(.ok (r1.1,false))
else
((each (fun j _=>C7 fun x1 x2=>Jv r r1 j x1 x2) 0 (List.range 8) ([],[])).bind (alt (C7 fun x1 x2=>(loop (Nj fun x8 o o1=>H9 r x8 o o1) (x1,b,r1.1)).bind (alt (C7 fun o2 o3=>J4 r x2 o2 o3) (fun r=>.ok r))) (fun r=>.ok r))))
else
(.ok (({ No:=0,Phase:=0,Slots:=0,Owners:=[],Flights:=[],Commitments:=[],Openings:=[],Outcome:=[] }:Clearing),false))
def P5 (b:(List (Vector Int 32)))(j:Nat)(a1:(Vector Int 32)):R (Unit ⊕ Bool):=
 (idx b (j:Int)).bind fun a2=>
 if(a1==a2) then
(.ok (.inl ()))
else
(.ok (.inr (false)))
def Ti (a:(List (Vector Int 32)))(b:(List (Vector Int 32))):R Bool:=
 if((a.length:Int) != (b.length:Int)) then
(.ok false)
else
((each (fun j a1=>fun _=>P5 b j a1) 0 a ()).bind (alt (fun _=>.ok true) (fun r=>.ok r)))
def Ly (a:Opening)(b:Opening):R Bool:=
 (if(((((a.Airline==b.Airline)&&(a.Flight==b.Flight))&&(a.Slot==b.Slot))&&(a.Cost==b.Cost))&&(a.Salt==b.Salt)) then(Ti a.Path b.Path).bind fun r=>
 R.ok r else R.ok false).bind (fun(b1:Bool)=>.ok b1)
def P6 (b:Clearing)(j:Nat)(a1:(Vector Int 32)):R (Unit ⊕ Bool):=
 (idx b.Commitments (j:Int)).bind fun a2=>
 if(a1==a2) then
(.ok (.inl ()))
else
(.ok (.inr (false)))
def Nw (b:Clearing)(j1:Nat)(a3:Opening):R (Unit ⊕ Bool):=
 (idx b.Openings (j1:Int)).bind fun a4=>
 (Ly a3 a4).bind fun r3=>
 if r3 then
(.ok (.inl ()))
else
(.ok (.inr (false)))
def Ob (a:Clearing)(b:Clearing):R Bool:=
 (if(((a.No != b.No)||(a.Phase != b.Phase))||(a.Slots != b.Slots)) then R.ok true else(Fv a.Owners b.Owners).bind fun r=>
 R.ok (!r)).bind (fun(b1:Bool)=>(if b1 then R.ok true else(Fv a.Flights b.Flights).bind fun r1=>
 R.ok (!r1)).bind (fun(b2:Bool)=>(if((b2||((a.Commitments.length:Int) != (b.Commitments.length:Int)))||((a.Openings.length:Int) != (b.Openings.length:Int))) then R.ok true else(Fv a.Outcome b.Outcome).bind fun r2=>
 R.ok (!r2)).bind (fun(b3:Bool)=>if b3 then
(.ok false)
else
((each (fun j a1=>fun _=>P6 b j a1) 0 a.Commitments ()).bind (alt (fun _=>(each (fun j1 a3=>fun _=>Nw b j1 a3) 0 a.Openings ()).bind (alt (fun _=>.ok true) (fun r=>.ok r))) (fun r=>.ok r))))))
def Mb (o:Opening)(a2:Clearing)(x2:Int)(o1:Clearing):R (Unit ⊕ Bool):=
 (Jn a2 o).bind fun r14=>
 (if((x2 != 0)||(r14.2 != 0)) then R.ok true else(Ob o1 a2).bind fun r15=>
 R.ok (!r15)).bind (fun(b4:Bool)=>(if b4 then R.ok true else(Ob r14.1 a2).bind fun r16=>
 R.ok (!r16)).bind (fun(b5:Bool)=>if b5 then
(.ok (.inr (false)))
else
(.ok (.inl ()))))
def Hr (r1:((List Int)×(List Int)×Int×(List (Int×(List Table)))×Bool))(a1:Int)(r9:((Vector Int 32)×Int))(o:Opening)(a2:Clearing):R (Unit ⊕ Bool):=
 (idx (Option.getD (Bv r1.2.2.2.1 a1) []) 0).bind fun a3=>
 (Hj a2 a3.Airline r9.1).bind fun r12=>
 Mb o a2 r12.2 r12.1
def Mc (r:Bool)(r1:((List Int)×(List Int)×Int×(List (Int×(List Table)))×Bool))(r3:(Clearing×Bool))(r6:(Clearing×Int))(a1:Int)(r9:((Vector Int 32)×Int))(x:Int)(o:Opening):R Bool:=
 if((r9.2 != 0)||(x != 0)) then
(.ok false)
else
((each (fun _ a2=>fun _=>Hr r1 a1 r9 o a2) 0 [r3.1,r6.1] ()).bind (alt (fun _=>.ok true) (fun r=>.ok r)))
def Ox (a:T25)(b:List Int)(c:Int):R Bool:=
 (Tf).bind fun r=>
 if r then
(if((decide ((a.Order.length:Int) > 40))||(decide ((b.length:Int) > 40))) then
(.ok true)
else
((Om a).bind fun r1=>
 (if(!r1.2.2.2.2) then R.ok true else(Q5 r1.2.2.2.1).bind fun r2=>
 R.ok r2).bind (fun(b1:Bool)=>if b1 then
(.ok true)
else
((O0 a a.Order).bind fun r3=>
 (O0 a b).bind fun r4=>
 (if((!r3.2)||(!r4.2)) then R.ok true else(Ob r3.1 r4.1).bind fun r5=>
 R.ok (!r5)).bind (fun(b2:Bool)=>if b2 then
(.ok false)
else
((Ii r3.1).bind fun r6=>
 (Ii r6.1).bind fun r7=>
 (if((r6.2 != 0)||(r7.2 != 0)) then R.ok true else(Ob r6.1 r7.1).bind fun r8=>
 R.ok (!r8)).bind (fun(b3:Bool)=>if b3 then
(.ok false)
else
(if(r1.1.length:Int)≠0 then(idx r1.1 (Int.tmod (IntKind.wrap .i64 c) (r1.1.length:Int))).bind fun a1=>
 (Gs (Option.getD (Bv r1.2.2.2.1 a1) [])).bind fun r9=>
 if((Option.getD (Bv r1.2.2.2.1 a1) []).length:Int)≠0 then if r1.2.2.1≠0 then(J1 (Option.getD (Bv r1.2.2.2.1 a1) []) (Int.tmod (IntKind.wrap .i64 c) ((Option.getD (Bv r1.2.2.2.1 a1) []).length:Int)) (Int.tmod (IntKind.wrap .i64 c) r1.2.2.1)).bind fun r10=>
 Mc r r1 r3 r6 a1 r9 r10.2 r10.1 else .bad else .bad else .bad))))))))
else
(.ok false)
end
end Go.Am
namespace Go.Am
open Go
set_option linter.unusedVariables false
set_option linter.unusedSectionVars false
set_option linter.unusedSimpArgs false
section
variable {α:Type}
abbrev Sr (α:Type):=List (Int×List α×AV×Nat)
def kL (Q:Sr α):List (Int×List α):=Q.map fun q=>(q.1,q.2.1)
def kv (Q:Sr α):List (Int×AV):=Q.map fun q=>(q.1,q.2.2.1)
def sO (st:Nat)(e:α→List AV)(Q:Sr α)(i:Nat):Option AO:=match Q[i]? with
 | some q=>Bb q.2.2.1 q.2.2.2 st (q.2.1.map e)
 | none=>none
def Agf (ids:List Nat)(b:Nat)(Q:Sr α):Prop := ∀ i q,Q[i]? = some q→Bp q.2.2.1 (ix ids (b+i)) q.2.2.2 q.2.1.length
def S6:Sr α→Int→Nat
 | [],_=>0
 | q::Q,k=>if q.1==k then 0 else S6 Q k+1
def Yt:Sr α→Int→List α×AV×Nat→Sr α
 | [],k,r=>[(k,r)]
 | q::Q,k,r=>if q.1==k then(k,r)::Q else q::Yt Q k r
theorem Ap9 (k:Int) : ∀ Q:Sr α,S6 Q k≤Q.length
 | []=>Nat.le_refl _
 | q::Q=>by
  unfold S6
  split
  ·exact Nat.zero_le _
  ·exact Nat.succ_le_succ (Ap9 k Q)
theorem Apn (k:Int)(r:List α×AV×Nat) : ∀ Q:Sr α,(Yt Q k r).length≤Q.length+1
 | []=>Nat.le_refl _
 | q::Q=>by
  unfold Yt
  split
  ·exact Nat.le_succ _
  ·exact Nat.succ_le_succ (Apn k r Q)
theorem Ag1 (k:Int)(r:List α×AV×Nat) : ∀ (Q:Sr α) (i:Nat),(Yt Q k r)[i]? = if i=S6 Q k then some (k,r) else Q[i]?
 | [],i=>by
  cases i with
  | zero=>rfl
  | succ i=>rfl
 | q::Q,i=>by
  unfold Yt S6
  split
  ·cases i with
   | zero=>rfl
   | succ i=>rfl
  ·cases i with
   | zero=>rfl
   | succ i=>
    have:=Ag1 k r Q i
    simp only [List.getElem?_cons_succ,this,Nat.add_right_cancel_iff]
theorem Ap2 (k:Int)(r:List α×AV×Nat) : ∀ Q:Sr α,kL (Yt Q k r)=H3 (kL Q) k r.1
 | []=>rfl
 | q::Q=>by
  have ih:=Ap2 k r Q
  unfold Yt
  simp only [kL,List.map_cons,H3] at ih ⊢
  split
  ·rfl
  ·simp only [List.map_cons,ih]
theorem Apa (k:Int)(r:List α×AV×Nat) : ∀ Q:Sr α,kv (Yt Q k r)=H3 (kv Q) k r.2.1
 | []=>rfl
 | q::Q=>by
  have ih:=Apa k r Q
  unfold Yt
  simp only [kv,List.map_cons,H3] at ih ⊢
  split
  ·rfl
  ·simp only [List.map_cons,ih]
theorem Apm (k:Int) : ∀ Q:Sr α,Bv (kL Q) k=(Q[S6 Q k]?).map (·.2.1)
 | []=>rfl
 | q::Q=>by
  have ih:=Apm k Q
  unfold S6
  simp only [kL,Bv,List.map_cons,List.find?_cons] at ih ⊢
  cases q.1==k with
  | true=>rfl
  | false=>simpa using ih
theorem Aq0 (k:Int) : ∀ Q:Sr α,Bv (kv Q) k=(Q[S6 Q k]?).map (·.2.2.1)
 | []=>rfl
 | q::Q=>by
  have ih:=Aq0 k Q
  unfold S6
  simp only [kv,Bv,List.map_cons,List.find?_cons] at ih ⊢
  cases q.1==k with
  | true=>rfl
  | false=>simpa using ih
theorem Avr {ids:List Nat}{b:Nat}:Agf ids b ([]:Sr α):=fun i q h=>by simp at h
theorem Apj {ids:List Nat}{b st:Nat}{e:α→List AV}{Q:Sr α}(h:Agf ids b Q)(k:Int) :
  Bp ((Bv (kv Q) k).getD .emp) (ix ids (b+S6 Q k)) (((Q[S6 Q k]?).map (·.2.2.2)).getD 0) ((Bv (kL Q) k).getD []).length∧sO st e Q (S6 Q k)=Bb ((Bv (kv Q) k).getD .emp) (((Q[S6 Q k]?).map (·.2.2.2)).getD 0) st (((Bv (kL Q) k).getD []).map e):=by
 rw [Aq0,Apm]
 unfold sO
 cases hq:Q[S6 Q k]? with
 | none=>exact⟨.nil,rfl⟩
 | some q=>exact⟨h _ _ hq,rfl⟩
theorem Au9 {ids:List Nat}{b:Nat}{Q:Sr α}(h:Agf ids b Q){k:Int}{L:List α}{v:AV}{g:Nat}(hv:Bp v (ix ids (b+S6 Q k)) g L.length):Agf ids b (Yt Q k (L,v,g)):=by
 intro i q hq
 rw [Ag1] at hq
 split at hq
 ·rename_i e
  cases hq
  rw [e]
  exact hv
 ·exact h i q hq
theorem Au3 {st:Nat}{e:α→List AV}{Q:Sr α}{k:Int}{L:List α}{v:AV}{g:Nat}(i:Nat):sO st e (Yt Q k (L,v,g)) i=if i=S6 Q k then Bb v g st (L.map e) else sO st e Q i:=by
 unfold sO
 rw [Ag1]
 by_cases h:i=S6 Q k
 ·rw [if_pos h,if_pos h]
 ·rw [if_neg h,if_neg h]
theorem Asw {a b c d f g:Option AO}{F:Nat→Option AO}{i:Nat}(hi:i<4):([a,b,c,d,f,g,F 0,F 1,F 2,F 3]:List (Option AO))[6+i]? = some (F i):=by
 match i,hi with
 | 0,_=>rfl
 | 1,_=>rfl
 | 2,_=>rfl
 | 3,_=>rfl
theorem Avi {a b c d f g X:Option AO}{F F':Nat→Option AO}{i:Nat}(hi:i<4)(h : ∀ q,F' q=if q=i then X else F q):([a,b,c,d,f,g,F 0,F 1,F 2,F 3]:List (Option AO)).set (6+i) X=[a,b,c,d,f,g,F' 0,F' 1,F' 2,F' 3]:=by
 match i,hi with
 | 0,_=>simp [h]
 | 1,_=>simp [h]
 | 2,_=>simp [h]
 | 3,_=>simp [h]
theorem Awm {h h2:Ab}{ids:List Nat}{b o g st:Nat}{e:α→List AV}{Q:Sr α}(hm:Agf ids b Q)(h1:h o=some (.mp g (mE (fun x:Int=>AV.int .i64 x) (fun v:AV=>v) (kv Q))))(h2':h2 o=none)
  (ho : ∀ i,i<Q.length→h (ix ids (b+i))=sO st e Q i∧h2 (ix ids (b+i))=none) (hr : ∀ x,Cm st (e x)):Fz h h2 (.map o g) (.mapi (mE (fun x:Int=>AV.int .i64 x) (fun L:List α=>AV.sl st (L.map e)) (kL Q))):=by
 refine .map o g _ _ h1 h2' (by simp [mE,kv,kL]) (fun i hi=>?_) (fun i hi=>?_)
 ·have hi':i<Q.length:=by simpa [mE,kv] using hi
  have e1:(mE (fun x:Int=>AV.int .i64 x) (fun v:AV=>v) (kv Q)).getD i (.und,.und)=(.int .i64 Q[i].1,Q[i].2.2.1):=by simp [mE,kv,List.getD,hi']
  have e2:(mE (fun x:Int=>AV.int .i64 x) (fun L:List α=>AV.sl st (L.map e)) (kL Q)).getD i (.und,.und)=(.int .i64 Q[i].1,.sl st (Q[i].2.1.map e)):=by simp [mE,kL,List.getD,hi']
  rw [e1,e2]
  exact .same _
 ·have hi':i<Q.length:=by simpa [mE,kv] using hi
  have e1:(mE (fun x:Int=>AV.int .i64 x) (fun v:AV=>v) (kv Q)).getD i (.und,.und)=(.int .i64 Q[i].1,Q[i].2.2.1):=by simp [mE,kv,List.getD,hi']
  have e2:(mE (fun x:Int=>AV.int .i64 x) (fun L:List α=>AV.sl st (L.map e)) (kL Q)).getD i (.und,.und)=(.int .i64 Q[i].1,.sl st (Q[i].2.1.map e)):=by simp [mE,kL,List.getD,hi']
  rw [e1,e2]
  have hq:=List.getElem?_eq_getElem hi'
  obtain⟨k1,k2⟩:=ho i hi'
  refine E5 (hm i _ hq) ?_ k2 hr
  rw [k1]
  unfold sO
  rw [hq]
end
end Go.Am
namespace Go.Am
open Go Go.Proofs
set_option maxRecDepth 100000
set_option maxHeartbeats 4000000
set_option linter.unusedSimpArgs false
set_option linter.unusedVariables false
theorem Ao6 {i:Nat}(h:i<4):Nat.blt (6+i) 10=true:=by
 simpa using (by omega:6+i<10)
theorem Zg (p:T25):CP Tryz.prog 9 [(.agg (Q0 p))] (Om p) (fun(p:((List Int)×(List Int)×Int×(List (Int×(List Table)))×Bool))=>AV.tup [(.sl 1 (List.map (rI .i64) p.1)),(.sl 1 (List.map (rI .i64) p.2.1)),(.int .i64 p.2.2.1),(.mapi (mE (fun x:Int=>(AV.int .i64 x)) (fun x:(List Table)=>(AV.sl 35 (List.map A4 x))) p.2.2.2.1)),(.bool p.2.2.2.2)]):=by
 refine ci 123 10 Tryz.func9 (Om.eq_1 _) fun h0 ids hI hF=>?_
 refine Ac ?_
 refine Ai ?_
 refine B5 0 (.agg (Q0 p)) fun g=>?_
 refine Aa 5 [] [(3,.emp),(2,.emp)] ?_
 refine O ?_
 refine Ar ?_
 refine Ac ?_
 refine Ai ?_
 refine Aa 2 [0] [(14,(.sl 1 (List.map (rI .u8) p.Owners)))] ?_
 refine Bl p.Owners ?_
 refine Ax (.I (p.Owners.length:Int)) rfl S1 ?_
 refine O ?_
 refine Ac ?_
 refine Ai ?_
 refine Aa 2 [0] [(17,(.int .u8 p.Slots))] ?_
 refine Aw (.I (IntKind.wrap .i64 p.Slots)) ?_
 refine Ax (.I (Int.tmod (IntKind.wrap .i64 p.Slots) 5)) rfl (Bf rfl rfl (O3 rfl (by decide))) ?_
 refine Aa 2 [] [(4,(.I (IntKind.wrap .i64 ((Int.tmod (IntKind.wrap .i64 p.Slots) 5)+1))))] ?_
 refine O ?_
 refine Ac ?_
 refine Ac ?_
 refine Ai ?_
 refine Aa 3 [] [(23,(.bool (decide ((p.Owners.length:Int)<1))))] ?_
 refine B4 3 23 26 [1,2,3,4,7] (.bool ((decide ((p.Owners.length:Int)<1))||(decide ((p.Owners.length:Int) > 4)))) rfl ?_ (fun hb1 hJ=>?_) (fun hb1 hJ=>?_)
 ·refine Ax (.bool ((decide ((p.Owners.length:Int)<1))||(decide ((p.Owners.length:Int) > 4)))) rfl Ba ?_
  refine B4 4 27 31 [1,2,3,4,7] (.bool (((decide ((p.Owners.length:Int)<1))||(decide ((p.Owners.length:Int) > 4)))||(decide ((p.Owners.length:Int) > (IntKind.wrap .i64 ((Int.tmod (IntKind.wrap .i64 p.Slots) 5)+1)))))) rfl ?_ (fun hb3 hJ1=>?_) (fun hb3 hJ1=>?_)
  ·refine Ax (.bool (((decide ((p.Owners.length:Int)<1))||(decide ((p.Owners.length:Int) > 4)))||(decide ((p.Owners.length:Int) > (IntKind.wrap .i64 ((Int.tmod (IntKind.wrap .i64 p.Slots) 5)+1)))))) rfl Ba ?_
   refine B4 6 32 38 [1,2,3,4] (.bool ((((decide ((p.Owners.length:Int)<1))||(decide ((p.Owners.length:Int) > 4)))||(decide ((p.Owners.length:Int) > (IntKind.wrap .i64 ((Int.tmod (IntKind.wrap .i64 p.Slots) 5)+1)))))||((p.Costs.length:Int) != (p.Owners.length:Int)))) rfl ?_ (fun hb5 hJ2=>?_) (fun hb5 hJ2=>?_)
   ·refine O ?_
    refine A8 rfl (fun hc=>?_) (fun hc=>?_)
    ·refine Ac ?_
     refine Ai ?_
     refine Aa 5 [] [(6,(.bool false)),(5,.mnil),(4,(.I 0)),(3,.emp),(2,.emp)] ?_
     refine O ?_
     exact Bu (a:=([],[],0,[],false)) (vs:=[.emp,.emp,(.I 0),.mnil,(.bool false)]) Tryz.func9 hI rfl (.tupL (.cons (.emp _) (.cons (.emp _) (.cons (.same _) (.cons .mnil (.cons (.same _) .nil))))))
    have hn4:p.Owners.length≤4:=by
     simp only [Bool.or_eq_false_iff,decide_eq_false_iff_not] at hc
     omega
    refine Aj ?_
    refine Ac ?_
    refine Ai ?_
    refine Wi (j:=1) hI rfl rfl rfl rfl fun g1=>?_
    refine Ax (.map (ix ids 1) g1) rfl S1 ?_
    refine O ?_
    refine Ar ?_
    refine Ac ?_
    refine Ac ?_
    refine Ai ?_
    refine Aa 2 [0] [(41,(.sl 1 (List.map (rI .u8) p.Owners)))] ?_
    refine Bl p.Owners ?_
    refine Ax (.I 0) rfl Ba ?_
    refine O ?_
    refine Ao ?_
    refine Cp (t:=41) (L:=p.Owners) rfl fun hlim=>?_
    refine B6 [1,2,3,4,5,42,43] ?_
    refine Dm (P:=Tryz.prog) p.Owners (fun j a=>un4 fun slots m owners flights=>Mj p j a slots m owners flights) ((alt (un4 fun slots m owners flights=>.ok (owners,flights,slots,m,true)) (fun r=>.ok r)):((Int×(List (Int×(List Table)))×(List Int)×(List Int)) ⊕ ((List Int)×(List Int)×Int×(List (Int×(List Table)))×Bool))→R ((List Int)×(List Int)×Int×(List (Int×(List Table)))×Bool)) (fun j=>un4 fun slots m owners flights=>fun(fr:Nat→AV) (h:Ab) => ∃ (v:AV),∃ (g2:Nat),∃ (v1:AV),∃ (g3:Nat),∃ (Q:Sr Table),Bp v (ix ids 2) g2 owners.length∧Bp v1 (ix ids 3) g3 flights.length∧Agf ids 6 Q∧Q.length≤j∧m=kL Q∧fr=Ag [(1,(.q ids 0 g)),(2,v),(3,v1),(4,(.I slots)),(5,(.map (ix ids 1) g1)),(42,(.I (p.Owners.length:Int))),(43,(.I (j:Int)))]∧h=hp h0 ids [(some (.rows g 5 [(Q0 p)])),(some (.mp g1 (mE (fun x:Int=>(AV.I x)) (fun v:AV=>v) (kv Q)))),(Bb v g2 1 (List.map (rI .i64) owners)),(Bb v1 g3 1 (List.map (rI .i64) flights)),none,none,sO 35 A4 Q 0,sO 35 A4 Q 1,sO 35 A4 Q 2,sO 35 A4 Q 3]) ((IntKind.wrap .i64 ((Int.tmod (IntKind.wrap .i64 p.Slots) 5)+1)),[],[],[]) ?_ ?_ ?_
    ·exact⟨.emp,0,.emp,0,[],.nil,.nil,Avr,Nat.zero_le _,rfl,rfl,rfl⟩
    ·rintro j a ha W hW ⟨slots,m,owners,flights⟩ fr h ⟨v,g2,v1,g3,Q,vH,vH1,hQ,hQl,hm,rfl,rfl⟩
     refine Ah (m':=Mj p j a slots m owners flights) rfl (Ah (Mj.eq_1 _ _ _ _ _ _ _) ?_)
     refine Ac ?_
     refine Ai ?_
     refine Aw (.bool (decide ((j:Int)<(p.Owners.length:Int)))) ?_
     refine O ?_
     refine Ac ?_
     refine Bx rfl (Int.ofNat_lt.2 (Au ha)) ?_
     refine Aj ?_
     refine Ac ?_
     refine Ao ?_
     refine Ac ?_
     refine Ai ?_
     refine Aa 2 [] [(8,(.I (j:Int)))] ?_
     refine O ?_
     refine Ac ?_
     refine Ai ?_
     refine Aa 3 [0] [(48,(.I (j:Int))),(47,(.sl 1 (List.map (rI .u8) p.Owners)))] ?_
     refine Ax (.cp [(.int .u8 a)] 0) rfl (As (Cl Df Eg rfl ha)) ?_
     refine Aw (.int .u8 a) ?_
     refine Aw (.I (IntKind.wrap .i64 a)) ?_
     refine Ax (.I (Int.tmod (IntKind.wrap .i64 a) 8)) rfl (Bf rfl rfl (O3 rfl (by decide))) ?_
     refine Ax (.I (Int.tmod (IntKind.wrap .i64 a) 8)) rfl S1 ?_
     refine O ?_
     refine Ac ?_
     refine Ai ?_
     refine Aa 2 [] [(54,(.I (Int.tmod (IntKind.wrap .i64 a) 8))),(53,v)] ?_
     refine Dq (e:=(rI .i64)) (L:=[(Int.tmod (IntKind.wrap .i64 a) 8)]) (st:=1) (rows:=[[(.I (Int.tmod (IntKind.wrap .i64 a) 8))]]) rfl A7 Bi rfl rfl rfl rfl rfl (.cons (RowSim.refl _) .nil) (fun x=>Bo x) rfl rfl ?_
     refine B3 fun hl=>?_
     refine Dj (e:=(rI .i64)) (L:=owners) (L2:=[(Int.tmod (IntKind.wrap .i64 a) 8)]) (v:=v) (g:=g2) (st:=1) (j:=2) hI rfl rfl rfl rfl vH rfl (C9 rfl) A7 A7 rfl Bi rfl rfl rfl hl fun v2 g4 vH2=>?_
     refine Aa 3 [] [(59,(.I (IntKind.wrap .i64 (10+(j:Int))))),(57,v1)] ?_
     refine Dq (e:=(rI .i64)) (L:=[(IntKind.wrap .i64 (10+(j:Int)))]) (st:=1) (rows:=[[(.I (IntKind.wrap .i64 (10+(j:Int))))]]) rfl A7 Bi rfl rfl rfl rfl rfl (.cons (RowSim.refl _) .nil) (fun x=>Bo x) rfl rfl ?_
     refine B3 fun hl1=>?_
     refine Dj (e:=(rI .i64)) (L:=flights) (L2:=[(IntKind.wrap .i64 (10+(j:Int)))]) (v:=v1) (g:=g3) (st:=1) (j:=3) hI rfl rfl rfl rfl vH1 rfl (C9 rfl) A7 A7 rfl Bi rfl rfl rfl hl1 fun v3 g5 vH3=>?_
     refine Aa 2 [] [(3,v3),(2,v2)] ?_
     refine O ?_
     refine Ar ?_
     refine Ac ?_
     refine Ai ?_
     refine Aa 4 [] [(65,(.agg ((.I (Int.tmod (IntKind.wrap .i64 a) 8))::((.I (IntKind.wrap .i64 (10+(j:Int))))::(.emp::((rV (rI .u8)) (B0 32 0)++[]))))))] ?_
     refine Co 4 Hq fun g6=>?_
     refine Bs (.agg ((.I (Int.tmod (IntKind.wrap .i64 a) 8))::((.I (IntKind.wrap .i64 (10+(j:Int))))::(.emp::(List.append ((rV (rI .u8)) (B0 32 0)) []))))) ?_
     refine O ?_
     refine Ar ?_
     refine Ac ?_
     refine Ac ?_
     refine Ai ?_
     refine Aa 3 [0] [(68,(.sl 32 (List.map (rV (rI .u8)) p.Salts))),(66,(.I (j:Int)))] ?_
     refine Bl p.Salts ?_
     refine Aw (.bool (decide ((j:Int)<(p.Salts.length:Int)))) ?_
     refine O ?_
     refine Cu (fun vSalt=>Mq p slots m owners flights j a vSalt) (fun vSalt=>fun(fr:Nat→AV) (h:Ab)=>fr=Ag [(1,(.q ids 0 g)),(2,v2),(3,v3),(4,(.I slots)),(5,(.map (ix ids 1) g1)),(8,(.I (j:Int))),(9,(.I (Int.tmod (IntKind.wrap .i64 a) 8))),(10,(.q ids 4 g6)),(42,(.I (p.Owners.length:Int))),(43,(.I (j:Int)))]∧h=hp h0 ids [(some (.rows g 5 [(Q0 p)])),(some (.mp g1 (mE (fun x:Int=>(AV.I x)) (fun v:AV=>v) (kv Q)))),(Bb v2 g4 1 (List.map (rI .i64) (owners++[(Int.tmod (IntKind.wrap .i64 a) 8)]))),(Bb v3 g5 1 (List.map (rI .i64) (flights++[(IntKind.wrap .i64 (10+(j:Int)))]))),(some (.rows g6 35 [((.I (Int.tmod (IntKind.wrap .i64 a) 8))::((.I (IntKind.wrap .i64 (10+(j:Int))))::(.emp::((rV (rI .u8)) vSalt++[]))))])),none,sO 35 A4 Q 0,sO 35 A4 Q 1,sO 35 A4 Q 2,sO 35 A4 Q 3]) ?_ fun hJ6=>?_
     ·rintro vSalt fr h ⟨rfl,rfl⟩
      refine Ah (Mq.eq_1 _ _ _ _ _ _ _ _) ?_
      refine Ac ?_
      refine Ac ?_
      refine Ai ?_
      refine Aa 2 [] [(78,(.I 0)),(77,(.I slots))] ?_
      refine O ?_
      refine Cu (C7 fun slots2 l1=>Mh m owners flights j a vSalt slots2 l1) (C7 fun slots2 l1=>fun(fr:Nat→AV) (h:Ab) => ∃ (v6:AV),∃ (g9:Nat),Bp v6 (ix ids 5) g9 l1.length∧fr=Ag [(1,(.q ids 0 g)),(2,v2),(3,v3),(4,(.I slots2)),(5,(.map (ix ids 1) g1)),(9,(.I (Int.tmod (IntKind.wrap .i64 a) 8))),(10,(.q ids 4 g6)),(42,(.I (p.Owners.length:Int))),(43,(.I (j:Int)))]∧h=hp h0 ids [(some (.rows g 5 [(Q0 p)])),(some (.mp g1 (mE (fun x:Int=>(AV.I x)) (fun v:AV=>v) (kv Q)))),(Bb v2 g4 1 (List.map (rI .i64) (owners++[(Int.tmod (IntKind.wrap .i64 a) 8)]))),(Bb v3 g5 1 (List.map (rI .i64) (flights++[(IntKind.wrap .i64 (10+(j:Int)))]))),(some (.rows g6 35 [((.I (Int.tmod (IntKind.wrap .i64 a) 8))::((.I (IntKind.wrap .i64 (10+(j:Int))))::(v6::((rV (rI .u8)) vSalt++[]))))])),(Bb v6 g9 1 (List.map (rI .i64) l1)),sO 35 A4 Q 0,sO 35 A4 Q 1,sO 35 A4 Q 2,sO 35 A4 Q 3]) ?_ fun hJ5=>?_
      ·rintro⟨slots2,l1⟩ fr h ⟨v6,g9,vH6,rfl,rfl⟩
       refine Ah (Mh.eq_1 _ _ _ _ _ _ _ _) ?_
       refine Ai ?_
       refine Aa 4 [] [(113,(.I (Int.tmod (IntKind.wrap .i64 a) 8))),(112,(.map (ix ids 1) g1)),(111,(.I (Int.tmod (IntKind.wrap .i64 a) 8))),(110,(.map (ix ids 1) g1))] ?_
       refine Ax (Option.getD (Bv (kv Q) (Int.tmod (IntKind.wrap .i64 a) 8)) AV.emp) rfl (Qk (Po (eK:=(fun x:Int=>(AV.I x))) (eV:=(fun v:AV=>v)) (zv:=AV.emp) (P0 (hI.at rfl rfl)) Abb Bi Le Fq rfl).1) ?_
       refine Aa 1 [4] [(115,(.agg ((.I (Int.tmod (IntKind.wrap .i64 a) 8))::((.I (IntKind.wrap .i64 (10+(j:Int))))::(v6::((rV (rI .u8)) vSalt++[]))))))] ?_
       refine Zb (h2:=hp h0 ids [(some (.rows g 5 [(Q0 p)])),(some (.mp g1 (mE (fun x:Int=>(AV.I x)) (fun v:AV=>v) (kv Q)))),(Bb v2 g4 1 (List.map (rI .i64) (owners++[(Int.tmod (IntKind.wrap .i64 a) 8)]))),(Bb v3 g5 1 (List.map (rI .i64) (flights++[(IntKind.wrap .i64 (10+(j:Int)))]))),none,none,sO 35 A4 Q 0,sO 35 A4 Q 1,sO 35 A4 Q 2,sO 35 A4 Q 3]) [(1,(.q ids 0 g)),(2,v2),(3,v3),(4,(.I slots2)),(5,(.map (ix ids 1) g1)),(42,(.I (p.Owners.length:Int))),(43,(.I (j:Int))),(110,(.map (ix ids 1) g1)),(111,(.I (Int.tmod (IntKind.wrap .i64 a) 8))),(114,(Option.getD (Bv (kv Q) (Int.tmod (IntKind.wrap .i64 a) 8)) AV.emp)),(115,(.agg (A4 ({ Airline:=(Int.tmod (IntKind.wrap .i64 a) 8),Flight:=(IntKind.wrap .i64 (10+(j:Int))),Costs:=l1,Salt:=vSalt }:Table))))] (Drops.sub (.keep (.keep (.keep (.keep (.drop (.drop (.keep (.keep (.keep (.keep .nil)))))))))) hI.len) (.cons (.same _) (.cons (.same _) (.cons (.same _) (.cons (.same _) (.cons (.same _) (.cons (.same _) (.cons (.same _) (.cons (.same _) (.cons (.same _) (.cons (.same _) (.cons (.aggL (.cons (.same _) (.cons (.same _) (.cons (E5 vH6 (hI.at rfl rfl) (hI.at rfl rfl) (fun x=>Bo x)) (Abd _ .nil))))) .nil))))))))))) rfl rfl ?_
       refine Dq (e:=A4) (L:=[({ Airline:=(Int.tmod (IntKind.wrap .i64 a) 8),Flight:=(IntKind.wrap .i64 (10+(j:Int))),Costs:=l1,Salt:=vSalt }:Table)]) (st:=35) (rows:=[((.I ({ Airline:=(Int.tmod (IntKind.wrap .i64 a) 8),Flight:=(IntKind.wrap .i64 (10+(j:Int))),Costs:=l1,Salt:=vSalt }:Table).Airline)::((.I ({ Airline:=(Int.tmod (IntKind.wrap .i64 a) 8),Flight:=(IntKind.wrap .i64 (10+(j:Int))),Costs:=l1,Salt:=vSalt }:Table).Flight)::((.sl 1 (List.map (rI .i64) ({ Airline:=(Int.tmod (IntKind.wrap .i64 a) 8),Flight:=(IntKind.wrap .i64 (10+(j:Int))),Costs:=l1,Salt:=vSalt }:Table).Costs))::((rV (rI .u8)) ({ Airline:=(Int.tmod (IntKind.wrap .i64 a) 8),Flight:=(IntKind.wrap .i64 (10+(j:Int))),Costs:=l1,Salt:=vSalt }:Table).Salt++[]))))]) rfl Le Hq rfl rfl rfl rfl rfl (.cons (RowSim.refl _) .nil) (fun x=>Z3 x) rfl rfl ?_
       refine B3 fun hl3=>?_
       have hi4:S6 Q (Int.tmod (IntKind.wrap .i64 a) 8)<4:=Nat.lt_of_le_of_lt (Nat.le_trans (Ap9 _ Q) hQl) (Nat.lt_of_lt_of_le (Au ha) hn4)
       subst hm
       refine Dj (e:=A4) (L:=(Option.getD (Bv (kL Q) (Int.tmod (IntKind.wrap .i64 a) 8)) [])) (L2:=[({ Airline:=(Int.tmod (IntKind.wrap .i64 a) 8),Flight:=(IntKind.wrap .i64 (10+(j:Int))),Costs:=l1,Salt:=vSalt }:Table)]) (v:=(Option.getD (Bv (kv Q) (Int.tmod (IntKind.wrap .i64 a) 8)) AV.emp)) (g:=(((Q[S6 Q (Int.tmod (IntKind.wrap .i64 a) 8)]?).map (·.2.2.2)).getD 0)) (st:=35) (j:=6+S6 Q (Int.tmod (IntKind.wrap .i64 a) 8)) hI rfl (Ao6 hi4) rfl rfl (Apj (st:=35) (e:=A4) hQ _).1 ((Asw hi4).trans (congrArg some (Apj hQ _).2)) (C9 rfl) Le Le rfl Hq rfl rfl rfl hl3 fun v7 g10 vH7=>?_
       refine Ax2 ?_ (Avi (F:=sO 35 A4 Q) (F':=sO 35 A4 (Yt Q (Int.tmod (IntKind.wrap .i64 a) 8) (((Option.getD (Bv (kL Q) (Int.tmod (IntKind.wrap .i64 a) 8)) [])++[({ Airline:=(Int.tmod (IntKind.wrap .i64 a) 8),Flight:=(IntKind.wrap .i64 (10+(j:Int))),Costs:=l1,Salt:=vSalt }:Table)]),v7,g10))) hi4 (fun q=>Au3 q))
       refine Pd (j:=1) (eK:=(fun x:Int=>(AV.I x))) (eV:=(fun v:AV=>v)) (M:=(kv Q)) (ky:=(Int.tmod (IntKind.wrap .i64 a) 8)) (w:=v7) hI rfl rfl rfl rfl rfl rfl Abb Bi Fq ?_
       rw [← Apa (Int.tmod (IntKind.wrap .i64 a) 8) (((Option.getD (Bv (kL Q) (Int.tmod (IntKind.wrap .i64 a) 8)) [])++[({ Airline:=(Int.tmod (IntKind.wrap .i64 a) 8),Flight:=(IntKind.wrap .i64 (10+(j:Int))),Costs:=l1,Salt:=vSalt }:Table)]),v7,g10) Q]
       refine O ?_
       refine Ar ?_
       refine Ay ?_
       refine Ai ?_
       refine Aa 2 [] [(43,(.I (IntKind.wrap .i64 ((j:Int)+1))))] ?_
       refine O ?_
       exact A3 (Ds (hW (slots2,(H3 (kL Q) (Int.tmod (IntKind.wrap .i64 a) 8) ((Option.getD (Bv (kL Q) (Int.tmod (IntKind.wrap .i64 a) 8)) [])++[({ Airline:=(Int.tmod (IntKind.wrap .i64 a) 8),Flight:=(IntKind.wrap .i64 (10+(j:Int))),Costs:=l1,Salt:=vSalt }:Table)])),(owners++[(Int.tmod (IntKind.wrap .i64 a) 8)]),(flights++[(IntKind.wrap .i64 (10+(j:Int)))])) _ _ ⟨v2,g4,v3,g5,Yt Q (Int.tmod (IntKind.wrap .i64 a) 8) (((Option.getD (Bv (kL Q) (Int.tmod (IntKind.wrap .i64 a) 8)) [])++[({ Airline:=(Int.tmod (IntKind.wrap .i64 a) 8),Flight:=(IntKind.wrap .i64 (10+(j:Int))),Costs:=l1,Salt:=vSalt }:Table)]),v7,g10),vH2,vH3,Au9 hQ vH7,Nat.le_trans (Apn _ _ Q) (Nat.succ_le_succ hQl),(Ap2 (Int.tmod (IntKind.wrap .i64 a) 8) (((Option.getD (Bv (kL Q) (Int.tmod (IntKind.wrap .i64 a) 8)) [])++[({ Airline:=(Int.tmod (IntKind.wrap .i64 a) 8),Flight:=(IntKind.wrap .i64 (10+(j:Int))),Costs:=l1,Salt:=vSalt }:Table)]),v7,g10) Q).symm,rfl,rfl⟩)) (.cons rfl (.cons rfl (.cons rfl (.cons rfl (.cons rfl (.cons rfl (.cons (F3 (Au ha) hlim) .nil)))))))
      refine Ao ?_
      refine B6 [1,2,3,4,5,8,9,10,42,43,77,78] ?_
      refine Gg (P:=Tryz.prog) (Nj fun slots1 x1 l=>K3 p slots j slots1 x1 l) ((alt (C7 fun slots2 l1=>Mh m owners flights j a vSalt slots2 l1) (fun r=>.ok (.inr (r)))):((Int×(List Int)) ⊕ ((List Int)×(List Int)×Int×(List (Int×(List Table)))×Bool))→R ((Int×(List (Int×(List Table)))×(List Int)×(List Int)) ⊕ ((List Int)×(List Int)×Int×(List (Int×(List Table)))×Bool))) (Nj fun slots1 x1 l=>fun(fr:Nat→AV) (h:Ab) => ∃ (v4:AV),∃ (g7:Nat),Bp v4 (ix ids 5) g7 l.length∧fr=Ag [(1,(.q ids 0 g)),(2,v2),(3,v3),(4,(.I slots1)),(5,(.map (ix ids 1) g1)),(8,(.I (j:Int))),(9,(.I (Int.tmod (IntKind.wrap .i64 a) 8))),(10,(.q ids 4 g6)),(42,(.I (p.Owners.length:Int))),(43,(.I (j:Int))),(77,(.I slots)),(78,(.I x1))]∧h=hp h0 ids [(some (.rows g 5 [(Q0 p)])),(some (.mp g1 (mE (fun x:Int=>(AV.I x)) (fun v:AV=>v) (kv Q)))),(Bb v2 g4 1 (List.map (rI .i64) (owners++[(Int.tmod (IntKind.wrap .i64 a) 8)]))),(Bb v3 g5 1 (List.map (rI .i64) (flights++[(IntKind.wrap .i64 (10+(j:Int)))]))),(some (.rows g6 35 [((.I (Int.tmod (IntKind.wrap .i64 a) 8))::((.I (IntKind.wrap .i64 (10+(j:Int))))::(v4::((rV (rI .u8)) vSalt++[]))))])),(Bb v4 g7 1 (List.map (rI .i64) l)),sO 35 A4 Q 0,sO 35 A4 Q 1,sO 35 A4 Q 2,sO 35 A4 Q 3]) (slots,0,[]) ?_ ?_
      ·exact⟨.emp,0,.nil,rfl,rfl⟩
      rintro vW1 hW1 ⟨slots1,x1,l⟩ fr h ⟨v4,g7,vH4,rfl,rfl⟩
      refine Ah (m':=K3 p slots j slots1 x1 l) rfl (Ah (K3.eq_1 _ _ _ _ _ _) ?_)
      refine Ac ?_
      refine Ai ?_
      refine Aw (.bool (decide (x1<slots))) ?_
      refine O ?_
      refine Ac ?_
      refine C1 rfl (fun hc2=>?_) (fun hc2=>?_)
      ·refine Aj ?_
       refine Ac ?_
       refine Ao ?_
       refine Ac ?_
       refine Ai ?_
       refine Aa 2 [] [(11,(.I x1))] ?_
       refine O ?_
       refine Ac ?_
       refine Ai ?_
       refine Ax (.I 0) rfl S1 ?_
       refine O ?_
       refine Ac ?_
       refine Ac ?_
       refine Ai ?_
       refine Aa 4 [0] [(84,(.I (j:Int))),(83,(.sl 1 (List.map (rL 1 (rI .i64)) p.Costs))),(81,(.I x1))] ?_
       refine Gw fun a2 hz1 hx2=>?_
       refine Ax (.cp [(.sl 1 (List.map (rI .i64) a2))] 0) rfl (As (B7 Pj A7 rfl hz1 hx2)) ?_
       refine Aw (.sl 1 (List.map (rI .i64) a2)) ?_
       refine Bl a2 ?_
       refine Aw (.bool (decide (x1<(a2.length:Int)))) ?_
       refine O ?_
       refine Cu (fun c=>Mo slots1 x1 l c) (fun c=>fun(fr:Nat→AV) (h:Ab)=>fr=Ag [(1,(.q ids 0 g)),(2,v2),(3,v3),(4,(.I slots1)),(5,(.map (ix ids 1) g1)),(8,(.I (j:Int))),(9,(.I (Int.tmod (IntKind.wrap .i64 a) 8))),(10,(.q ids 4 g6)),(12,(.I c)),(42,(.I (p.Owners.length:Int))),(43,(.I (j:Int))),(77,(.I slots)),(78,(.I x1))]∧h=hp h0 ids [(some (.rows g 5 [(Q0 p)])),(some (.mp g1 (mE (fun x:Int=>(AV.I x)) (fun v:AV=>v) (kv Q)))),(Bb v2 g4 1 (List.map (rI .i64) (owners++[(Int.tmod (IntKind.wrap .i64 a) 8)]))),(Bb v3 g5 1 (List.map (rI .i64) (flights++[(IntKind.wrap .i64 (10+(j:Int)))]))),(some (.rows g6 35 [((.I (Int.tmod (IntKind.wrap .i64 a) 8))::((.I (IntKind.wrap .i64 (10+(j:Int))))::(v4::((rV (rI .u8)) vSalt++[]))))])),(Bb v4 g7 1 (List.map (rI .i64) l)),sO 35 A4 Q 0,sO 35 A4 Q 1,sO 35 A4 Q 2,sO 35 A4 Q 3]) ?_ fun hJ4=>?_
       ·rintro c fr h ⟨rfl,rfl⟩
        refine Ah (Mo.eq_1 _ _ _ _) ?_
        refine Ac ?_
        refine Ac ?_
        refine Ai ?_
        refine Aa 3 [] [(99,(.bool (decide (c<(-1)))))] ?_
        refine B4 3 99 102 [1,2,3,4,5,8,9,10,12,42,43,77,78] (.bool ((decide (c<(-1)))||(decide (c > 1048576)))) rfl ?_ (fun hb7 hJ3=>?_) (fun hb7 hJ3=>?_)
        ·refine O ?_
         refine A8 rfl (fun hc4=>?_) (fun hc4=>?_)
         ·refine Ac ?_
          refine Ai ?_
          refine Aa 5 [] [(6,(.bool false)),(5,.mnil),(4,(.I 0)),(3,.emp),(2,.emp)] ?_
          refine O ?_
          refine Ec ?_
          refine C8 ?_
          refine Du ?_
          refine C8 ?_
          exact Bu (a:=([],[],0,[],false)) (vs:=[.emp,.emp,(.I 0),.mnil,(.bool false)]) Tryz.func9 hI rfl (.tupL (.cons (.emp _) (.cons (.emp _) (.cons (.same _) (.cons .mnil (.cons (.same _) .nil))))))
         refine Aj ?_
         refine Ai ?_
         refine Aa 3 [4] [(105,(.I c)),(104,v4)] ?_
         refine Dq (e:=(rI .i64)) (L:=[c]) (st:=1) (rows:=[[(.I c)]]) rfl A7 Bi rfl rfl rfl rfl rfl (.cons (RowSim.refl _) .nil) (fun x=>Bo x) rfl rfl ?_
         refine B3 fun hl2=>?_
         refine Dj (e:=(rI .i64)) (L:=l) (L2:=[c]) (v:=v4) (g:=g7) (st:=1) (j:=5) hI rfl rfl rfl rfl vH4 rfl (C9 rfl) A7 A7 rfl Bi rfl rfl rfl hl2 fun v5 g8 vH5=>?_
         refine Aw (.ptr (ix ids 4) g6 0 2) ?_
         refine B8 (Uv vH5 hI rfl rfl rfl rfl A7 rfl rfl rfl) ?_
         refine O ?_
         refine Ar ?_
         refine Ay ?_
         refine Ai ?_
         refine Aa 2 [] [(78,(.I (IntKind.wrap .i64 (x1+1))))] ?_
         refine O ?_
         exact A3 (Fa (hW1 (slots1,(IntKind.wrap .i64 (x1+1)),(l++[c])) _ _ ⟨v5,g8,vH5,rfl,rfl⟩))
        ·refine Aa 3 [] [(102,(.bool true)),(101,.und),(100,.und)] ?_
         exact A5 hJ3 (.cons rfl (.cons rfl (.cons rfl (.cons rfl (.cons rfl (.cons rfl (.cons rfl (.cons rfl (.cons rfl (.cons rfl (.cons rfl (.cons rfl (.cons rfl (.cons (Dp hb7) .nil))))))))))))))
        refine Aa 3 [] [(102,(.bool (decide (c > 1048576)))),(101,(.bool (decide (c > 1048576)))),(100,(.I c))] ?_
        exact A5 hJ3 (.cons rfl (.cons rfl (.cons rfl (.cons rfl (.cons rfl (.cons rfl (.cons rfl (.cons rfl (.cons rfl (.cons rfl (.cons rfl (.cons rfl (.cons rfl (.cons (Do hb7) .nil))))))))))))))
       refine C1 rfl (fun hc3=>?_) (fun hc3=>?_)
       ·refine Ai ?_
        refine Aa 3 [0] [(91,(.I (j:Int))),(90,(.sl 1 (List.map (rL 1 (rI .i64)) p.Costs)))] ?_
        refine Ax (.cp [(.sl 1 (List.map (rI .i64) a2))] 0) rfl (As (B7 Pj A7 rfl hz1 hx2)) ?_
        refine Aa 2 [] [(94,(.I x1)),(93,(.sl 1 (List.map (rI .i64) a2)))] ?_
        refine Gw fun a3 hz2 hx3=>?_
        refine Ax (.cp [(.I a3)] 0) rfl (As (B7 A7 Bi rfl hz2 hx3)) ?_
        refine Aa 2 [] [(12,(.I a3))] ?_
        refine O ?_
        exact A3 (hJ4 a3 _ _ ⟨rfl,rfl⟩)
       refine Aj ?_
       exact A3 (hJ4 0 _ _ ⟨rfl,rfl⟩)
      refine Bd rfl ?_
      refine Ec ?_
      refine U9 ?_
      exact A3 (hJ5 (slots1,l) _ _ ⟨v4,g7,vH4,rfl,rfl⟩)
     refine C1 rfl (fun hc1=>?_) (fun hc1=>?_)
     ·refine Ai ?_
      refine Aa 3 [0] [(73,(.I (j:Int))),(72,(.sl 32 (List.map (rV (rI .u8)) p.Salts)))] ?_
      refine Gw fun a1 hz hx1=>?_
      refine Ax (.cp ((rV (rI .u8)) a1) 0) rfl (As (B7 Cn Bj rfl hz hx1)) ?_
      refine Aa 2 [] [(76,(.ptr (ix ids 4) g6 0 3)),(75,(.agg ((rV (rI .u8)) a1)))] ?_
      refine Bs (.agg ((rV (rI .u8)) a1)) ?_
      refine O ?_
      refine Ar ?_
      exact A3 (hJ6 a1 _ _ ⟨rfl,rfl⟩)
     refine Aj ?_
     exact A3 (hJ6 (B0 32 0) _ _ ⟨rfl,rfl⟩)
    rintro⟨slots,m,owners,flights⟩ fr h ⟨v,g2,v1,g3,Q,vH,vH1,hQ,hQl,hm,rfl,rfl⟩
    subst hm
    refine Ah (Dz _ _ _) ?_
    refine Ah (Avn _ _ _ _ _) ?_
    refine Ac ?_
    refine Ai ?_
    refine Aw (.bool (decide ((p.Owners.length:Int)<(p.Owners.length:Int)))) ?_
    refine O ?_
    refine Ac ?_
    refine Bw rfl (Int.lt_irrefl _) ?_
    refine Bd rfl ?_
    refine Ac ?_
    refine Ai ?_
    refine Aa 9 [] [(6,(.bool true)),(5,(.map (ix ids 1) g1)),(4,(.I slots)),(3,v1),(2,v)] ?_
    refine O ?_
    exact Bu (a:=(owners,flights,slots,kL Q,true)) (vs:=[v,v1,(.I slots),(.map (ix ids 1) g1),(.bool true)]) Tryz.func9 hI rfl (.tupL (.cons (E5 vH (hI.at rfl rfl) (hI.out rfl) (fun x=>Bo x)) (.cons (E5 vH1 (hI.at rfl rfl) (hI.out rfl) (fun x=>Bo x)) (.cons (.same _) (.cons (Awm hQ (hI.at rfl rfl) (hI.out rfl) (fun i hi=>⟨hI.at rfl (Asw (Nat.lt_of_lt_of_le hi (Nat.le_trans hQl hn4))),hI.out (Ao6 (Nat.lt_of_lt_of_le hi (Nat.le_trans hQl hn4)))⟩) (fun x=>Z3 x)) (.cons (.same _) .nil))))))
   ·refine Aa 6 [] [(38,(.bool true))] ?_
    exact A5 hJ2 (.cons rfl (.cons rfl (.cons rfl (.cons rfl (.cons (Dp hb5) .nil)))))
   refine Aa 2 [0] [(34,(.sl 1 (List.map (rL 1 (rI .i64)) p.Costs)))] ?_
   refine Ch (tj:=32) (.I (p.Costs.length:Int)) rfl rfl rfl (Ca (Cw Pj)) ?_
   refine Aa 3 [] [(38,(.bool ((p.Costs.length:Int) != (p.Owners.length:Int))))] ?_
   exact A5 hJ2 (.cons rfl (.cons rfl (.cons rfl (.cons rfl (.cons (Do hb5) .nil)))))
  ·refine Aa 4 [] [(31,(.bool true))] ?_
   exact A5 hJ1 (.cons rfl (.cons rfl (.cons rfl (.cons rfl (.cons rfl (.cons (Dp hb3) .nil))))))
  refine Aa 4 [] [(31,(.bool (decide ((p.Owners.length:Int) > (IntKind.wrap .i64 ((Int.tmod (IntKind.wrap .i64 p.Slots) 5)+1))))))] ?_
  exact A5 hJ1 (.cons rfl (.cons rfl (.cons rfl (.cons rfl (.cons rfl (.cons (Do hb3) .nil))))))
 ·refine Aa 3 [] [(26,(.bool true))] ?_
  exact A5 hJ (.cons rfl (.cons rfl (.cons rfl (.cons rfl (.cons rfl (.cons (Dp hb1) .nil))))))
 refine Aa 3 [] [(26,(.bool (decide ((p.Owners.length:Int) > 4))))] ?_
 exact A5 hJ (.cons rfl (.cons rfl (.cons rfl (.cons rfl (.cons rfl (.cons (Do hb1) .nil))))))
end Go.Am
namespace Go.Am
open Go Go.Proofs Go.Proofs.Tryz
set_option maxRecDepth 100000
set_option maxHeartbeats 4000000
set_option linter.unusedSimpArgs false
set_option linter.unusedVariables false
theorem Adf (l:List Int)(h0:Ab)(o0:Nat)(v:AV)(g:Nat)(hv:Bp v o0 g l.length)(hI0:Ids h0 [o0] 1):Ml l≠.bad→Bm Tryz.prog 88 [v] (hp h0 [o0] [Bb v g 1 (l.map rJ)]) (Ed (fun a_ v' h'=>v'=(.tup [])∧h'=hp h0 [o0] [Bb v g 1 ((K9 l).map rJ)]) h0 (Ml l)):=
 Am5 hI0 (.mk Tryz.func88 rfl (by decide)) hv Go.Proofs.Tryz.slices_Sort_int Go.Proofs.Tryz.slices_Sort_int_none
theorem Oi (owners:List Int)(h0:Ab)(o0:Nat)(hI0:Ids h0 [o0] 1):F1 owners≠.bad→Bm Tryz.prog 50 [(.K owners)] (hp h0 [o0] [none]) (Ed (fun a_ v h' => ∃ (g3:Nat),v=(.tup [(.map o0 g3),(.K a_.1)])∧h'=hp h0 [o0] [some (.mp g3 (mE (fun x:Int=>(AV.int .i64 x)) (fun x:Int=>(AV.int .i64 x)) a_.2))]) h0 (F1 owners)):=by
 refine Ef (n:=36) 1 func50 J (by decide) J J hI0 J fun ids he hI=>?_
 clear hI0
 obtain rfl:ix ids 0=o0:=he 0 rfl
 clear he
 refine Ep (Ah (F1.eq_1 _) ?_)
 refine Ar ?_
 refine Y<|Aa 2 [] [(3,.emp)]<|O<|Y<|Wi (j:=0) hI J J J J fun g=>Ad (.map (ix ids 0) g)<|O<|Ar ?_
 refine Ac<|Y<|Ap (.K owners)<|Bl owners<|Ap (.I 0)<|O<|Ao<|B6 [2,3,7,8,9] ?_
 refine De (P:=Tryz.prog) owners (fun _ a=>C7 fun m airlines=>Hc a m airlines) (((C7 fun m airlines=>(Ml airlines).bind fun _=>.ok ((K9 airlines),m))):((List (Int×Int))×(List Int))→R ((List Int)×(List (Int×Int)))) (fun j=>C7 fun m airlines=>fun fr h => ∃ (v1:AV),∃ (g1:Nat),Bp v1 (ix ids 1) g1 airlines.length∧fr=Ag [(2,.map (ix ids 0) g),(3,v1),(7,.K owners),(8,.I (owners.length:Int)),(9,.I j)]∧h=hp h0 ids [some (.mp g (mE (fun x:Int=>(AV.I x)) (fun x:Int=>(AV.I x)) m)),Bb v1 g1 1 (List.map rJ airlines)]) ([],[]) ?_ ?_ ?_
 ·exact⟨.emp,0,.nil,J,J⟩
 ·rintro j a ha W hW ⟨m,airlines⟩ fr h ⟨v1,g1,vH,rfl,rfl⟩
  refine Ah (m':=Hc a m airlines) J (Ah (Hc.eq_1 _ _ _) ?_)
  refine Y<|Aw (.B (decide ((j:Int)<(owners.length:Int))))<|O<|Ac<|Cp (t:=7) (L:=owners) J fun hlim=>Bx J (Int.ofNat_lt.2 (Au ha))<|Aj<|Ac<|Ao<|Y<|Ax (.cp [.I a] 0) J (As (Cl A7 Bi J ha))<|Aa 2 [] [(5,.I a)]<|O<|Ac<|Y<|Aa 3 [] [(15,.B (decide (a<0)))]<|B4 3 15 18 [2,3,5,7,8,9] (.B ((decide (a<0))||(decide (a≥8)))) J ?_ (fun hb1 hJ=>?_) (fun hb1 hJ=>?_)
  ·refine O<|A8 J (fun hc=>?_) (fun hc=>?_)
   ·refine Bd J<|Ai<|Aa 2 [] [(9,.I (wi ((j:Int)+1)))]<|O<|A3 (Gf (hW (m,airlines) _ _ ⟨v1,g1,vH,J,J⟩)) (.r4 (.o (ic ha hlim)))
   refine Aj<|Ac<|Y<|Aa 2 [] [(20,.I a),(19,.map (ix ids 0) g)]<|Ax (.I (Option.getD (Bv m a) 0)) J (Qk (Po (eK:=(fun x:Int=>(AV.I x))) (eV:=(fun x:Int=>(AV.I x))) (zv:=0) (P0 (hI.at J J)) Zu Bi Bi Fq J).1)<|Aw (.B ((Option.getD (Bv m a) 0)==0))<|O<|A8 J (fun hc1=>?_) (fun hc1=>?_)
   ·refine Ai<|Aa 2 [] [(24,.I a),(23,v1)]<|Dq (e:=rJ) (L:=[a]) (st:=1) (rows:=[[.I a]]) J A7 Bi J J J J J (.cons (RowSim.refl _) .nil) (fun x=>Bo x) J J<|B3 fun hl=>Dj (e:=rJ) (L:=airlines) (L2:=[a]) (v:=v1) (g:=g1) (st:=1) (j:=1) hI J J J J vH J (C9 J) A7 A7 J Bi J J J hl fun v2 g2 vH1=>Ad v2<|O<|Ar ?_
    refine Ai<|Aa 2 [] [(28,.I a),(27,.map (ix ids 0) g)]<|Ax (.I (Option.getD (Bv m a) 0)) J (Qk (Po (eK:=(fun x:Int=>(AV.I x))) (eV:=(fun x:Int=>(AV.I x))) (zv:=0) (P0 (hI.at J J)) Zu Bi Bi Fq J).1)<|Aw (.I (wi ((Option.getD (Bv m a) 0)+1)))<|Pd (j:=0) (eK:=(fun x:Int=>(AV.I x))) (eV:=(fun x:Int=>(AV.I x))) (M:=m) (ky:=a) (w:=(wi ((Option.getD (Bv m a) 0)+1))) hI J J J J J J Zu Bi Fq<|O<|Ar ?_
    refine Ay<|Ai<|Aa 2 [] [(9,.I (wi ((j:Int)+1)))]<|O<|A3 (Gf (hW ((H3 m a (wi ((Option.getD (Bv m a) 0)+1))),airlines++[a]) _ _ ⟨v2,g2,vH1,J,J⟩)) (.r4 (.o (ic ha hlim)))
   refine Aj<|Ai<|Aa 2 [] [(28,.I a),(27,.map (ix ids 0) g)]<|Ax (.I (Option.getD (Bv m a) 0)) J (Qk (Po (eK:=(fun x:Int=>(AV.I x))) (eV:=(fun x:Int=>(AV.I x))) (zv:=0) (P0 (hI.at J J)) Zu Bi Bi Fq J).1)<|Aw (.I (wi ((Option.getD (Bv m a) 0)+1)))<|Pd (j:=0) (eK:=(fun x:Int=>(AV.I x))) (eV:=(fun x:Int=>(AV.I x))) (M:=m) (ky:=a) (w:=(wi ((Option.getD (Bv m a) 0)+1))) hI J J J J J J Zu Bi Fq<|O<|Ar ?_
   refine Ay<|Ai<|Aa 2 [] [(9,.I (wi ((j:Int)+1)))]<|O<|A3 (Gf (hW ((H3 m a (wi ((Option.getD (Bv m a) 0)+1))),airlines) _ _ ⟨v1,g1,vH,J,J⟩)) (.r4 (.o (ic ha hlim)))
  ·refine Aa 3 [] [(18,.B true),(17,.und),(16,.und)]<|A5 hJ (.r4 (.r2 (.cons (Dp hb1) .nil)))
  refine Aa 3 [] [(18,.B (decide (a≥8))),(17,.B (decide (a≥8))),(16,.I a)]<|A5 hJ (.r4 (.r2 (.cons (Do hb1) .nil)))
 rintro⟨m,airlines⟩ fr h ⟨v1,g1,vH,rfl,rfl⟩
 refine Ah (Ajl _ _ _)<|Y<|Aw (.B (decide ((owners.length:Int)<(owners.length:Int))))<|O<|Ac<|Bw J (Int.lt_irrefl _)<|Bd J<|Y<|Ap v1<|D8 [1] hI J J (Adf airlines _ (ix ids 1) v1 g1 vH (by exact hI.sub' J J)) J J J J J J (fun v _=>E2 (K:=1) (N:=1) func50 hI) ?_
 rintro _ _ _ _ ⟨rfl,rfl⟩
 refine Hx [1] hI J J J ?_
 refine Ew<|O<|Ar ?_
 refine Y<|Aa 4 [] [(3,v1),(2,.map (ix ids 0) g)]<|O<|Fy (K:=1) (N:=1) [some (.mp g (mE (fun x:Int=>(AV.I x)) (fun x:Int=>(AV.I x)) m))] func50 hI J J J (.keep (.drop .nil)) (.tupL (.s (.cons (E5 (Bp.sort vH) (hI.at J J) (hI.at J J) (fun x=>Bo x)) .nil))) ⟨g,J,J⟩
theorem Aec (c):CP Tryz.prog 38 [.A (Ae c)] (Qa c) AV.bool:=by
 refine ci 94 2 func38 (Qa.eq_1 _) fun h0 ids hI hF=>Y<|B5 0 (.A (Ae c)) fun g=>Ad (.B false)<|O<|Ar ?_
 refine Ac<|Y<|Aa 4 [0] [(11,.B (decide (c.No<1)))]<|B4 4 11 15 [1] (.B ((decide (c.No<1))||(decide (c.No > 1048576)))) J ?_ (fun hb1 hJ=>?_) (fun hb1 hJ=>?_)
 ·refine Ap (.B ((decide (c.No<1))||(decide (c.No > 1048576))))<|B4 4 16 20 [1] (.B (((decide (c.No<1))||(decide (c.No > 1048576)))||(decide (c.Slots<1)))) J ?_ (fun hb3 hJ1=>?_) (fun hb3 hJ1=>?_)
  ·refine Ap (.B (((decide (c.No<1))||(decide (c.No > 1048576)))||(decide (c.Slots<1))))<|B4 4 21 25 [1] (.B ((((decide (c.No<1))||(decide (c.No > 1048576)))||(decide (c.Slots<1)))||(decide (c.Slots > 8)))) J ?_ (fun hb5 hJ2=>?_) (fun hb5 hJ2=>?_)
   ·refine Ap (.B ((((decide (c.No<1))||(decide (c.No > 1048576)))||(decide (c.Slots<1)))||(decide (c.Slots > 8))))<|B4 5 26 31 [1] (.B (((((decide (c.No<1))||(decide (c.No > 1048576)))||(decide (c.Slots<1)))||(decide (c.Slots > 8)))||(decide ((c.Flights.length:Int)<1)))) J ?_ (fun hb7 hJ3=>?_) (fun hb7 hJ3=>?_)
    ·refine Ap (.B (((((decide (c.No<1))||(decide (c.No > 1048576)))||(decide (c.Slots<1)))||(decide (c.Slots > 8)))||(decide ((c.Flights.length:Int)<1))))<|B4 7 32 39 [1] (.B ((((((decide (c.No<1))||(decide (c.No > 1048576)))||(decide (c.Slots<1)))||(decide (c.Slots > 8)))||(decide ((c.Flights.length:Int)<1)))||(decide ((c.Flights.length:Int) > c.Slots)))) J ?_ (fun hb9 hJ4=>?_) (fun hb9 hJ4=>?_)
     ·refine Ap (.B ((((((decide (c.No<1))||(decide (c.No > 1048576)))||(decide (c.Slots<1)))||(decide (c.Slots > 8)))||(decide ((c.Flights.length:Int)<1)))||(decide ((c.Flights.length:Int) > c.Slots))))<|B4 8 40 48 [1] (.B (((((((decide (c.No<1))||(decide (c.No > 1048576)))||(decide (c.Slots<1)))||(decide (c.Slots > 8)))||(decide ((c.Flights.length:Int)<1)))||(decide ((c.Flights.length:Int) > c.Slots)))||((c.Owners.length:Int) != (c.Flights.length:Int)))) J ?_ (fun hb11 hJ5=>?_) (fun hb11 hJ5=>?_)
      ·refine O<|A8 J (fun hc=>?_) (fun hc=>?_)
       ·refine Y<|Ad (.B false)<|O<|rt
       refine Aj<|Y<|Ad (.I (-1))<|O<|Ac<|Y<|Aa 2 [0] [(50,.K c.Flights)]<|Bl c.Flights<|Ap (.I 0)<|O<|Ao<|B6 [1,3,50,51,52] ?_
       refine Dm (P:=Tryz.prog) c.Flights (fun j a=>fun last=>Kv c j a last) ((alt (fun last=>(F1 c.Owners).bind fun r=>.ok ((c.Commitments.length:Int)==(r.1.length:Int))) (fun r=>.ok r)):(Int ⊕ Bool)→R Bool) (fun j=>fun last=>fun fr h=>fr=Ag [(1,.q ids 0 g),(3,.I last),(50,.K c.Flights),(51,.I (c.Flights.length:Int)),(52,.I j)]∧h=hp h0 ids [Aq g 8 [Ae c],none]) (-1) ?_ ?_ ?_
       ·exact⟨J,J⟩
       ·rintro j a ha W hW last fr h ⟨rfl,rfl⟩
        refine Ah (m':=Kv c j a last) J (Ah (Kv.eq_1 _ _ _ _) ?_)
        refine Y<|Aw (.B (decide ((j:Int)<(c.Flights.length:Int))))<|O<|Ac<|Cp (t:=50) (L:=c.Flights) J fun hlim=>Bx J (Int.ofNat_lt.2 (Au ha))<|Aj<|Ac<|Ao<|Y<|Ap (.I j)<|Ax (.cp [.I a] 0) J (As (Cl A7 Bi J ha))<|Aa 3 [] [(5,.I a),(4,.I j)]<|O<|Ac<|Y<|Aa 4 [] [(60,.B (decide (a≤last)))]<|B4 3 60 63 [1,4,5,50,51,52] (.B ((decide (a≤last))||(decide (a > 4095)))) J ?_ (fun hb13 hJ6=>?_) (fun hb13 hJ6=>?_)
        ·refine Ap (.B ((decide (a≤last))||(decide (a > 4095))))<|G5 7 64 71 [1,4,5,50,51,52] .bool J ?_ (fun hb15 hJ7=>?_) (fun hb15 hJ7=>?_)
         ·intro b
          refine Ap (.B b)<|G5 7 72 79 [1,5,50,51,52] .bool J ?_ (fun hb17 hJ8=>?_) (fun hb17 hJ8=>?_)
          ·intro b1
           refine O<|A8 J (fun hc1=>?_) (fun hc1=>?_)
           ·refine Y<|Ad (.B false)<|O<|Du<|C8<|rt
           refine Aj<|Ai<|Aa 2 [] [(3,.I a)]<|O<|Ay<|Ai<|Aa 2 [] [(52,.I (wi ((j:Int)+1)))]<|O<|A3 (Ds (hW a _ _ ⟨J,J⟩)) (.r4 (.o (ic ha hlim)))
          ·refine Aa 7 [] [(79,.B true),(78,.und),(77,.und),(76,.und),(75,.und),(74,.und),(73,.und)]<|Cr (hJ8 true)
          refine Aa 3 [0] [(75,.I j),(74,.K c.Owners),(73,.ptr (ix ids 0) g 0 3)]<|Gw fun a2 hz1 hx2=>Ch (tj:=72) (.cp [.I a2] 0) J J J (As (B7 A7 Bi J hz1 hx2))<|Aa 3 [] [(79,.B (decide (a2≥8))),(78,.B (decide (a2≥8))),(77,.I a2)]<|Cr (hJ8 (decide (a2≥8)))
         ·refine Aa 7 [] [(71,.B true),(70,.und),(69,.und),(68,.und),(67,.und),(66,.und),(65,.und)]<|Cr (hJ7 true)
         refine Aa 3 [0] [(67,.I j),(66,.K c.Owners),(65,.ptr (ix ids 0) g 0 3)]<|Gw fun a1 hz hx1=>Ch (tj:=64) (.cp [.I a1] 0) J J J (As (B7 A7 Bi J hz hx1))<|Aa 3 [] [(71,.B (decide (a1<0))),(70,.B (decide (a1<0))),(69,.I a1)]<|Cr (hJ7 (decide (a1<0)))
        ·refine Aa 3 [] [(63,.B true),(62,.und),(61,.und)]<|A5 hJ6 (.r4 (.r2 (.cons (Dp hb13) .nil)))
        refine Aa 3 [] [(63,.B (decide (a > 4095))),(62,.B (decide (a > 4095))),(61,.I a)]<|A5 hJ6 (.r4 (.r2 (.cons (Do hb13) .nil)))
       rintro last fr h ⟨rfl,rfl⟩
       refine Ah (Dz _ _ _)<|Y<|Aw (.B (decide ((c.Flights.length:Int)<(c.Flights.length:Int))))<|O<|Ac<|Bw J (Int.lt_irrefl _)<|Bd J<|Y<|Aa 2 [0] [(84,.K c.Owners)]<|D8 [1] hI J J (Oi c.Owners _ (ix ids 1) (by exact hI.sub' J J)) J J J J J J (fun v _=>Dt func38 hI) ?_
       rintro r _ _ _ ⟨g1,rfl,rfl⟩
       refine Hx [1] hI J J J ?_
       refine Ew<|Aa 5 [] [(7,.K r.1)]<|O<|Ar ?_
       refine Y<|Aa 2 [0] [(89,.M c.Commitments)]<|Bl c.Commitments<|Ap (.K r.1)<|Bl r.1<|Aa 2 [] [(2,.B ((c.Commitments.length:Int)==(r.1.length:Int)))]<|O<|rt
      ·refine Aa 8 [] [(48,.B true)]<|A5 hJ5 (.r (.cons (Dp hb11) .nil))
      refine Aa 2 [0] [(42,.K c.Owners)]<|Ch (tj:=40) (.I (c.Owners.length:Int)) J J J (Ca (Cw A7))<|Aa 2 [0] [(45,.K c.Flights)]<|Ch (tj:=40) (.I (c.Flights.length:Int)) J J J (Ca (Cw A7))<|Aa 2 [] [(48,.B ((c.Owners.length:Int) != (c.Flights.length:Int)))]<|A5 hJ5 (.r (.cons (Do hb11) .nil))
     ·refine Aa 7 [] [(39,.B true)]<|A5 hJ4 (.r (.cons (Dp hb9) .nil))
     refine Aa 2 [0] [(34,.K c.Flights)]<|Ch (tj:=32) (.I (c.Flights.length:Int)) J J J (Ca (Cw A7))<|Aa 4 [0] [(39,.B (decide ((c.Flights.length:Int) > c.Slots)))]<|A5 hJ4 (.r (.cons (Do hb9) .nil))
    ·refine Aa 5 [] [(31,.B true)]<|A5 hJ3 (.r (.cons (Dp hb7) .nil))
    refine Aa 2 [0] [(28,.K c.Flights)]<|Ch (tj:=26) (.I (c.Flights.length:Int)) J J J (Ca (Cw A7))<|Aa 2 [] [(31,.B (decide ((c.Flights.length:Int)<1)))]<|A5 hJ3 (.r (.cons (Do hb7) .nil))
   ·refine Aa 4 [] [(25,.B true)]<|A5 hJ2 (.r (.cons (Dp hb5) .nil))
   refine Aa 4 [0] [(25,.B (decide (c.Slots > 8)))]<|A5 hJ2 (.r (.cons (Do hb5) .nil))
  ·refine Aa 4 [] [(20,.B true)]<|A5 hJ1 (.r (.cons (Dp hb3) .nil))
  refine Aa 4 [0] [(20,.B (decide (c.Slots<1)))]<|A5 hJ1 (.r (.cons (Do hb3) .nil))
 ·refine Aa 4 [] [(15,.B true)]<|A5 hJ (.r (.cons (Dp hb1) .nil))
 refine Aa 4 [0] [(15,.B (decide (c.No > 1048576)))]<|A5 hJ (.r (.cons (Do hb1) .nil))
theorem Yd (s v):CP Tryz.prog 117 [.M s,.A (rU v)] (Nc s v) (.int .i64):=by
 refine ci 19 1 func117 (Nc.eq_1 _ _) fun h0 ids hI hF=>Y<|B5 0 (.A (rU v)) fun g=>Ad (.I 0)<|O<|Ar ?_
 refine Ac<|Y<|Ap (.M s)<|Bl s<|Ap (.I 0)<|O<|Ao<|B6 [0,3,7,8] ?_
 refine Dm (P:=Tryz.prog) s (fun j a=>fun _=>La v j a) ((alt (fun _=>.ok (-1)) (fun r=>.ok r)):(Unit ⊕ Int)→R Int) (fun j=>fun _=>fun fr h=>fr=Ag [(0,.M s),(3,.q ids 0 g),(7,.I (s.length:Int)),(8,.I j)]∧h=hp h0 ids [Aq g 32 [rU v]]) () ?_ ?_ ?_
 ·exact⟨J,J⟩
 ·rintro j a ha W hW _ fr h ⟨rfl,rfl⟩
  refine Ah (m':=La v j a) J (Ah (La.eq_1 _ _ _) ?_)
  refine Y<|Aw (.B (decide ((j:Int)<(s.length:Int))))<|O<|Ac<|Cp (t:=0) (L:=s) J fun hlim=>Bx J (Int.ofNat_lt.2 (Au ha))<|Aj<|Ac<|Ao<|Y<|Aa 2 [] [(5,.I j)]<|O<|Ac<|By [0,0,0,6,14,31] [pR 0,pR 1,pR 2,pR 3,pR 4,pR 5] Dn<|At [0] [(11,.A (rU v)),(12,.M s),(13,.I j)]<|A0 (.cp (rU a) 0) J J (As (Cl Cn Bj J ha))<|At [] [(15,.A (rU a))]<|A0 (.B (v==a)) J J (Bf (Q6 J J) J (Sq Bj Eg))<|Be ?_
  refine A8 J (fun hc=>?_) (fun hc=>?_)
  ·refine Y<|Aa 2 [] [(4,.I j)]<|O<|Du<|C8<|rt
  refine Aj<|Ay<|Ai<|Aa 2 [] [(8,.I (wi ((j:Int)+1)))]<|O<|A3 (Ds (hW () _ _ ⟨J,J⟩)) (.r2 (.r (.o (ic ha hlim))))
 rintro _ fr h ⟨rfl,rfl⟩
 refine Ah (Dz _ _ _)<|Y<|Aw (.B (decide ((s.length:Int)<(s.length:Int))))<|O<|Ac<|Bw J (Int.lt_irrefl _)<|Bd J<|Y<|Ad (.I (-1))<|O<|rt
theorem Wg (s v):CP Tryz.prog 89 [.M s,.A (rU v)] (Ik s v) AV.bool:=by
 refine ci 9 1 func89 (Ik.eq_1 _ _) fun h0 ids hI hF=>Y<|B5 0 (.A (rU v)) fun g=>Ad (.B false)<|O<|Ar ?_
 refine Y<|Aa 2 [0] [(6,.A (rU v)),(5,.M s)]<|oc ((Yd s v) _) fun r _=>Aa 2 [] [(4,.B (decide (r≥0)))]<|O<|rt
theorem Nd (c):CP Tryz.prog 53 [.A (Ae c)] (Hg c) AV.bool:=by
 refine ci 8 1 func53 (Hg.eq_1 _) fun h0 ids hI hF=>Y<|B5 0 (.A (Ae c)) fun g=>Ad (.B false)<|O<|Ar ?_
 refine Y<|Aa 3 [0] [(5,.A (rU (#v[0,0,0,0,0,0,0,0,0,0,0,0,0,0,0,0,0,0,0,0,0,0,0,0,0,0,0,0,0,0,0,0]:(Vector Int 32)))),(4,.M c.Commitments)]<|oc ((Wg c.Commitments (#v[0,0,0,0,0,0,0,0,0,0,0,0,0,0,0,0,0,0,0,0,0,0,0,0,0,0,0,0,0,0,0,0]:(Vector Int 32))) _) fun r _=>Aa 2 [] [(2,.B (!r))]<|O<|rt
theorem Aa4 (c):CP Tryz.prog 182 [.A (Ae c)] (P1 c) AV.bool:=by
 refine ci 16 1 func182 (P1.eq_1 _) fun h0 ids hI hF=>Y<|B5 0 (.A (Ae c)) fun g=>Ad (.B false)<|O<|Ar ?_
 refine Y<|Aa 1 [0] [(3,.A (Ae c))]<|oc ((Nd c) _) fun r _=>Aa 2 [] [(6,.B (!r))]<|B4 9 6 15 [] (.B ((!r)&&((wi ((c.Openings.length:Int)+(c.Outcome.length:Int)))==0))) J ?_ (fun hb1 hJ=>?_) (fun hb1 hJ=>?_)
 ·refine Ad (.B ((!r)&&((wi ((c.Openings.length:Int)+(c.Outcome.length:Int)))==0)))<|O<|rt
 ·refine Aa 2 [0] [(8,.sl 37 (List.map Ak c.Openings))]<|Ch (tj:=6) (.I (c.Openings.length:Int)) J J J (Ca (Cw Hi))<|Aa 2 [0] [(11,.K c.Outcome)]<|Ch (tj:=6) (.I (c.Outcome.length:Int)) J J J (Ca (Cw A7))<|Aa 3 [] [(15,.B ((wi ((c.Openings.length:Int)+(c.Outcome.length:Int)))==0))]<|A5 hJ (.cons (Jw hb1) .nil)
 refine Aa 9 [] [(15,.B false)]<|A5 hJ (.cons (Jy hb1) .nil)
theorem W0 (a):CP Tryz.prog 120 [.int .i64 a] (P8 a) AV.bool:=by
 refine ci 6 0 func120 (P8.eq_1 _) fun h0 ids hI hF=>Y<|Ad (.B false)<|O<|Y<|Aa 4 [] [(2,.B (a != a))]<|O<|rt
theorem Rb (a y):CP Tryz.prog 94 [.int .i64 a,.int .i64 y] (Js a y) (.int .i64):=by
 refine ci 20 0 func94 (Js.eq_1 _ _) fun h0 ids hI hF=>Y<|Ad (.I 0)<|O<|Y<|Ap (.I a)<|oc ((W0 a) _) fun xNaN _=>Ad (.B xNaN)<|O<|Y<|Ap (.I y)<|oc ((W0 y) _) fun yNaN _=>Ad (.B yNaN)<|O<|Ac<|Y<|Ax (.B xNaN) J Ba ?_
 refine O<|A8 J (fun hc=>?_) (fun hc=>?_)
 ·refine Ac<|Y<|Ap (.B yNaN)<|O<|A8 J (fun hc1=>?_) (fun hc1=>?_)
  ·refine Y<|Ad (.I 0)<|O<|rt
  refine Aj<|Y<|Ad (.I (-1))<|O<|rt
 refine Aj<|Ac<|Y<|Ap (.B yNaN)<|O<|A8 J (fun hc2=>?_) (fun hc2=>?_)
 ·refine Y<|Ad (.I 1)<|O<|rt
 refine Aj<|Ac<|Y<|Aa 3 [] [(16,.B (decide (a<y)))]<|O<|C1 J (fun hc3=>?_) (fun hc3=>?_)
 ·refine Y<|Ad (.I (-1))<|O<|rt
 refine Aj<|Ac<|Y<|Aa 3 [] [(19,.B (decide (a > y)))]<|O<|C1 J (fun hc4=>?_) (fun hc4=>?_)
 ·refine Y<|Ad (.I 1)<|O<|rt
 refine Aj<|Y<|Ad (.I 0)<|O<|rt
theorem Aid (vals):CP Tryz.prog 93 [.K vals] (Tj vals) (.int .i64):=by
 refine ci 18 0 func93 (Tj.eq_1 _) fun h0 ids hI hF=>Y<|Ad (.I 0)<|O<|Y<|Ad (.I 0)<|O<|Ac<|Y<|Ap (.K vals)<|Bl vals<|Ap (.I 0)<|O<|Ao<|B6 [3,6,7,8] ?_
 refine Dm (P:=Tryz.prog) vals (fun _ a=>fun _=>Lv a) ((alt (fun _=>.ok 0) (fun r=>.ok r)):(Unit ⊕ Int)→R Int) (fun j=>fun _=>fun fr h=>fr=Ag [(3,.I 0),(6,.K vals),(7,.I (vals.length:Int)),(8,.I j)]∧h=hp h0 ids []) () ?_ ?_ ?_
 ·exact⟨J,J⟩
 ·rintro j a ha W hW _ fr h ⟨rfl,rfl⟩
  refine Ah (m':=Lv a) J (Ah (Lv.eq_1 _) ?_)
  refine Y<|Aw (.B (decide ((j:Int)<(vals.length:Int))))<|O<|Ac<|Cp (t:=6) (L:=vals) J fun hlim=>Bx J (Int.ofNat_lt.2 (Au ha))<|Aj<|Ac<|Ao<|Y<|Ax (.cp [.I a] 0) J (As (Cl A7 Bi J ha))<|Aa 2 [] [(5,.I a)]<|O<|Y<|Aa 3 [] [(14,.B (a != 0))]<|O<|A8 J (fun hc=>?_) (fun hc=>?_)
  ·refine Y<|Aa 2 [] [(2,.I a)]<|O<|Du<|C8<|rt
  refine Aj<|Ay<|Ai<|Aa 2 [] [(8,.I (wi ((j:Int)+1)))]<|O<|A3 (Ds (hW () _ _ ⟨J,J⟩)) (.r2 (.r (.o (ic ha hlim))))
 rintro _ fr h ⟨rfl,rfl⟩
 refine Ah (Dz _ _ _)<|Y<|Aw (.B (decide ((vals.length:Int)<(vals.length:Int))))<|O<|Ac<|Bw J (Int.lt_irrefl _)<|Bd J<|Y<|Aa 2 [] [(2,.I 0)]<|O<|rt
theorem Tu (a b):CP Tryz.prog 56 [.A (Ak a),.A (Ak b)] (Mz a b) (.int .i64):=by
 refine ci 17 2 func56 (Mz.eq_1 _ _) fun h0 ids hI hF=>Y<|B5 0 (.A (Ak a)) fun g=>B5 1 (.A (Ak b)) fun g1=>Ad (.I 0)<|O<|Ar ?_
 refine Ac<|By [0,1,0,4,15,0,32,0,128,511,1023,2047,4095] [pR 0,pR 1,pR 2,pR 3,pR 5,pR 6,pR 7,pR 8,pE 4,pE 9,pE 10,pE 11,pR 12] Dn<|At [0,1,0,1] [(5,.ptr (ix ids 0) g 0 1),(6,.I a.Flight),(7,.ptr (ix ids 1) g1 0 1),(8,.I b.Flight),(10,.ptr (ix ids 0) g 0 2),(11,.I a.Slot),(12,.ptr (ix ids 1) g1 0 2),(13,.I b.Slot)]<|H0 ((Rb a.Flight b.Flight) _) (hpd:=(D6 [1,0])) fun r _=>?_
 refine H0 ((Rb a.Slot b.Slot) _) fun r1 _=>?_
 refine Fj J J (fun _ _=>J) (fun K hK=>Ky (e:=rJ) (L:=[r,r1]) (st:=1) (rows:=[[.I r],[.I r1]]) A7 Bi J J J J J (.cons (RowSim.refl _) (.cons (RowSim.refl _) .nil)) (fun x=>Bo x) J J (hK _ _ Dw ?_))
 clear hK K
 refine H0 ((Aid [r,r1]) _) fun r2 _=>?_
 refine At [] [(4,.I r2)]<|Be<|rt
theorem Na (s v):CP Tryz.prog 51 [.K s,.int .i64 v] (I0 s v) (.int .i64):=by
 refine ci 19 0 func51 (I0.eq_1 _ _) fun h0 ids hI hF=>Y<|Ad (.I 0)<|O<|Ac<|Y<|Ap (.K s)<|Bl s<|Ap (.I 0)<|O<|Ao<|B6 [0,1,7,8] ?_
 refine Dm (P:=Tryz.prog) s (fun j a=>fun _=>M9 v j a) ((alt (fun _=>.ok (-1)) (fun r=>.ok r)):(Unit ⊕ Int)→R Int) (fun j=>fun _=>fun fr h=>fr=Ag [(0,.K s),(1,.I v),(7,.I (s.length:Int)),(8,.I j)]∧h=hp h0 ids []) () ?_ ?_ ?_
 ·exact⟨J,J⟩
 ·rintro j a ha W hW _ fr h ⟨rfl,rfl⟩
  refine Ah (m':=M9 v j a) J (Ah (M9.eq_1 _ _ _) ?_)
  refine Y<|Aw (.B (decide ((j:Int)<(s.length:Int))))<|O<|Ac<|Cp (t:=0) (L:=s) J fun hlim=>Bx J (Int.ofNat_lt.2 (Au ha))<|Aj<|Ac<|Ao<|Y<|Aa 2 [] [(5,.I j)]<|O<|Y<|Aa 3 [] [(13,.I j),(12,.K s),(11,.I v)]<|Ax (.cp [.I a] 0) J (As (Cl A7 Bi J ha))<|Aa 2 [] [(16,.B (v==a))]<|O<|A8 J (fun hc=>?_) (fun hc=>?_)
  ·refine Y<|Aa 2 [] [(4,.I j)]<|O<|Du<|C8<|rt
  refine Aj<|Ay<|Ai<|Aa 2 [] [(8,.I (wi ((j:Int)+1)))]<|O<|A3 (Ds (hW () _ _ ⟨J,J⟩)) (.r2 (.r (.o (ic ha hlim))))
 rintro _ fr h ⟨rfl,rfl⟩
 refine Ah (Dz _ _ _)<|Y<|Aw (.B (decide ((s.length:Int)<(s.length:Int))))<|O<|Ac<|Bw J (Int.lt_irrefl _)<|Bd J<|Y<|Ad (.I (-1))<|O<|rt
theorem Uc (airline flight):CP Tryz.prog 59 [.int .i64 airline,.int .i64 flight] (K1 airline flight) AV.bool:=by
 refine ci 19 0 func59 (K1.eq_1 _ _) fun h0 ids hI hF=>Y<|Ad (.B false)<|O<|Y<|Aa 3 [] [(7,.B (decide (airline≥0)))]<|B4 3 7 10 [1] (.B ((decide (airline≥0))&&(decide (airline<8)))) J ?_ (fun hb1 hJ=>?_) (fun hb1 hJ=>?_)
 ·refine Ap (.B ((decide (airline≥0))&&(decide (airline<8))))<|B4 3 11 14 [1] (.B (((decide (airline≥0))&&(decide (airline<8)))&&(decide (flight≥0)))) J ?_ (fun hb3 hJ1=>?_) (fun hb3 hJ1=>?_)
  ·refine Ap (.B (((decide (airline≥0))&&(decide (airline<8)))&&(decide (flight≥0))))<|B4 3 15 18 [] (.B ((((decide (airline≥0))&&(decide (airline<8)))&&(decide (flight≥0)))&&(decide (flight≤4095)))) J ?_ (fun hb5 hJ2=>?_) (fun hb5 hJ2=>?_)
   ·refine Ad (.B ((((decide (airline≥0))&&(decide (airline<8)))&&(decide (flight≥0)))&&(decide (flight≤4095))))<|O<|rt
   ·refine Aa 3 [] [(18,.B (decide (flight≤4095)))]<|A5 hJ2 (.cons (Jw hb5) .nil)
   refine Aa 3 [] [(18,.B false)]<|A5 hJ2 (.cons (Jy hb5) .nil)
  ·refine Aa 3 [] [(14,.B (decide (flight≥0)))]<|A5 hJ1 (.r (.cons (Jw hb3) .nil))
  refine Aa 3 [] [(14,.B false)]<|A5 hJ1 (.r (.cons (Jy hb3) .nil))
 ·refine Aa 3 [] [(10,.B (decide (airline<8)))]<|A5 hJ (.r (.cons (Jw hb1) .nil))
 refine Aa 3 [] [(10,.B false)]<|A5 hJ (.r (.cons (Jy hb1) .nil))
theorem Vp (c):CP Tryz.prog 60 [.int .i64 c] (Lt c) AV.bool:=by
 refine ci 9 0 func60 (Lt.eq_1 _) fun h0 ids hI hF=>Y<|Ad (.B false)<|O<|Y<|Aa 3 [] [(5,.B (decide (c≥(-1))))]<|B4 3 5 8 [] (.B ((decide (c≥(-1)))&&(decide (c≤1048576)))) J ?_ (fun hb1 hJ=>?_) (fun hb1 hJ=>?_)
 ·refine Ad (.B ((decide (c≥(-1)))&&(decide (c≤1048576))))<|O<|rt
 ·refine Aa 3 [] [(8,.B (decide (c≤1048576)))]<|A5 hJ (.cons (Jw hb1) .nil)
 refine Aa 3 [] [(8,.B false)]<|A5 hJ (.cons (Jy hb1) .nil)
theorem Ade (W_:Value→R (Int×Bool))(cp_W_ : ∀ (v:Value),CP Tryz.prog 148 [(.A (Cd v))] (W_ v) (fun(p:(Int×Bool))=>AV.tup [(.int .i64 p.1),(.B p.2)]))(v:Value):CP Tryz.prog 148 [(.A (Cd v))] (Ru W_ v) (fun(p:(Int×Bool))=>AV.tup [(.int .i64 p.1),(.B p.2)]):=by
 refine ci 74 3 func148 (Ru.eq_1 _ _) fun h0 ids hI hF=>Y<|B5 0 (.A (Cd v)) fun g=>Aa 2 [] [(2,.I 0)]<|O<|Ar ?_
 refine Y<|Aa 4 [0] [(12,.B (v.S==[]))]<|B4 5 12 17 [1,2] (.B ((v.S==[])&&((v.L.length:Int)==0))) J ?_ (fun hb1 hJ=>?_) (fun hb1 hJ=>?_)
 ·refine Aa 4 [0] [(21,.B (v.N==0))]<|B4 5 21 26 [1,2,17] (.B ((v.N==0)&&((v.L.length:Int)==0))) J ?_ (fun hb3 hJ1=>?_) (fun hb3 hJ1=>?_)
  ·refine Aa 4 [0] [(30,.B (v.N==0))]<|B4 4 30 34 [1,2,17,26] (.B ((v.N==0)&&(v.S==[]))) J ?_ (fun hb5 hJ2=>?_) (fun hb5 hJ2=>?_)
   ·refine Ax (.A ((rV rB) (#v[false,(v.S==[])&&((v.L.length:Int)==0),(v.N==0)&&((v.L.length:Int)==0),(v.N==0)&&(v.S==[])]:(Vector Bool 4)))) J (Aah (Ai8 Aio X1 J))<|Ee (j:=1) (row:=((rV rB) (B0 4 false))) hI J J J J Aio (Hf (n:=4) (e:=rB) (E:=(fun x:Bool=>(AV.bool x))) (fun _=>J) _).symm ((Ct (fun x=>Arw x) J) _) fun g1=>B8 (D5 (v:=(.A ((rV rB) (#v[false,(v.S==[])&&((v.L.length:Int)==0),(v.N==0)&&((v.L.length:Int)==0),(v.N==0)&&(v.S==[])]:(Vector Bool 4))))) hI J J J Aio J J J (((Ct (fun x=>Arw x) J) _).1) J)<|O<|Ar ?_
    refine Ac<|Y<|Aa 4 [0] [(39,.B (decide (v.Kind<1)))]<|B4 4 39 43 [1,2,4] (.B ((decide (v.Kind<1))||(decide (v.Kind > 3)))) J ?_ (fun hb7 hJ3=>?_) (fun hb7 hJ3=>?_)
    ·refine Ap (.B ((decide (v.Kind<1))||(decide (v.Kind > 3))))<|G5 6 44 50 [1,2] .bool J ?_ (fun hb9 hJ4=>?_) (fun hb9 hJ4=>?_)
     ·intro b
      refine O<|A8 J (fun hc=>?_) (fun hc=>?_)
      ·refine Y<|Aa 2 [] [(3,.B false),(2,.I 0)]<|O<|Bu func148 hI J (.tupL .s2)
      refine Aj<|Ac<|Y<|Aa 3 [0] [(53,.B (decide (v.Kind<3)))]<|O<|C1 J (fun hc1=>?_) (fun hc1=>?_)
      ·refine Y<|Aa 2 [] [(3,.B true),(2,.I 0)]<|O<|Bu func148 hI J (.tupL .s2)
      refine Aj<|Ac<|Y<|Aa 2 [0] [(55,.sl 4 (List.map rValueA v.L))]<|Bl v.L<|Ap (.I 0)<|O<|Ao<|Cc 3<|B6 [2,55,56,57] ?_
      refine Dm (P:=Tryz.prog) v.L (fun _ a=>fun depth=>Jr W_ a depth) ((alt (fun depth=>.ok ((wi (depth+1)),true)) (fun r=>.ok r)):(Int ⊕ (Int×Bool))→R (Int×Bool)) (fun j=>fun depth=>fun fr h=>fr=Ag [(2,.I depth),(55,.sl 4 (List.map rValueA v.L)),(56,.I (v.L.length:Int)),(57,.I j)]∧h=hp h0 ids [none,none,none]) 0 ?_ ?_ ?_
      ·exact⟨J,J⟩
      ·rintro j a ha W hW depth fr h ⟨rfl,rfl⟩
       refine Ah (m':=Jr W_ a depth) J (Ah (Jr.eq_1 _ _ _) ?_)
       refine Y<|Aw (.B (decide ((j:Int)<(v.L.length:Int))))<|O<|Ac<|Cp (t:=55) (L:=v.L) J fun hlim=>Bx J (Int.ofNat_lt.2 (Au ha))<|Aj<|Ac<|Ao<|Y<|Ax (.cp (Cd a) 0) J (As (Aek Tw J5 N0 J ha))<|Aw (.A (Cd a))<|Co 2 N0 fun g2=>Bs (.A (Cd a)) ?_
       refine O<|Ar ?_
       refine Y<|Aa 1 [2] [(62,.A (Cd a))]<|oc ((cp_W_ a) _) fun r _=>Aa 5 [] [(8,.B r.2),(7,.I r.1)]<|O<|Ac<|Y<|Aa 2 [] [(67,.B (!r.2))]<|O<|H4 J (fun hc2=>?_) (fun hc2=>?_)
       ·refine Aj<|Ai<|Aa 2 [] [(69,.I r.1),(68,.I depth)]<|Ax (.I (if r.1 > depth then r.1 else depth)) J (Av5 J)<|Ad (.I (if r.1 > depth then r.1 else depth))<|O<|Ay<|Ai<|Aa 2 [] [(57,.I (wi ((j:Int)+1)))]<|O<|Cc 4<|A3 (Ds (hW (if r.1 > depth then r.1 else depth) _ _ ⟨J,J⟩)) (.r2 (.r (.o (ic ha hlim))))
       refine Y<|Aa 2 [] [(3,.B false),(2,.I 0)]<|O<|Du<|C8<|Bu func148 hI J (.tupL .s2)
      rintro depth fr h ⟨rfl,rfl⟩
      refine Ah (Dz _ _ _)<|Y<|Aw (.B (decide ((v.L.length:Int)<(v.L.length:Int))))<|O<|Ac<|Bw J (Int.lt_irrefl _)<|Bd J<|Y<|Aa 4 [] [(3,.B true),(2,.I (wi (depth+1)))]<|O<|Bu func148 hI J (.tupL .s2)
     ·refine Aa 6 [] [(50,.B true)]<|Cr (hJ4 true)
     refine Aa 2 [0] [(46,.I v.Kind)]<|B3 fun hi=>Ch (tj:=44) (.ptr (ix ids 1) g1 0 (Int.toNat v.Kind)) J J J (As (H6 Aio X1 J hi))<|Ch (tj:=44) (.B (A2 (#v[false,(v.S==[])&&((v.L.length:Int)==0),(v.N==0)&&((v.L.length:Int)==0),(v.N==0)&&(v.S==[])]:(Vector Bool 4)) (Int.toNat v.Kind) false)) J J J (Bg (A6 hI J J J X1 (Fh (e:=rB) (E:=(fun x:Bool=>(AV.bool x))) (fun _=>J) (I2 hi) false)))<|Aa 2 [] [(50,.B (!(A2 (#v[false,(v.S==[])&&((v.L.length:Int)==0),(v.N==0)&&((v.L.length:Int)==0),(v.N==0)&&(v.S==[])]:(Vector Bool 4)) (Int.toNat v.Kind) false)))]<|Cr (hJ4 (!(A2 (#v[false,(v.S==[])&&((v.L.length:Int)==0),(v.N==0)&&((v.L.length:Int)==0),(v.N==0)&&(v.S==[])]:(Vector Bool 4)) (Int.toNat v.Kind) false)))
    ·refine Aa 4 [] [(43,.B true)]<|A5 hJ3 (.r2 (.r (.cons (Dp hb7) .nil)))
    refine Aa 4 [0] [(43,.B (decide (v.Kind > 3)))]<|A5 hJ3 (.r2 (.r (.cons (Do hb7) .nil)))
   ·refine Aa 4 [0] [(34,.B (v.S==[]))]<|A5 hJ2 (.r4 (.cons (Jw hb5) .nil))
   refine Aa 4 [] [(34,.B false)]<|A5 hJ2 (.r4 (.cons (Jy hb5) .nil))
  ·refine Aa 2 [0] [(23,.sl 4 (List.map rValueA v.L))]<|Ch (tj:=21) (.I (v.L.length:Int)) J J J (Ca (Cw J5))<|Aa 2 [] [(26,.B ((v.L.length:Int)==0))]<|A5 hJ1 (.r2 (.r (.cons (Jw hb3) .nil)))
  refine Aa 5 [] [(26,.B false)]<|A5 hJ1 (.r2 (.r (.cons (Jy hb3) .nil)))
 ·refine Aa 2 [0] [(14,.sl 4 (List.map rValueA v.L))]<|Ch (tj:=12) (.I (v.L.length:Int)) J J J (Ca (Cw J5))<|Aa 2 [] [(17,.B ((v.L.length:Int)==0))]<|A5 hJ (.r2 (.cons (Jw hb1) .nil))
 refine Aa 5 [] [(17,.B false)]<|A5 hJ (.r2 (.cons (Jy hb1) .nil))
theorem Adc : ∀ (n:Nat) (v:Value),CP Tryz.prog 148 [(.A (Cd v))] (Hv n v) (fun(p:(Int×Bool))=>AV.tup [(.int .i64 p.1),(.B p.2)]):=by
 intro n
 induction n with
 | zero=>intro v; exact fun h hb=>absurd rfl hb
 | succ n ih=>intro v; exact Ade (Hv n) ih v
theorem Afx (v:Value):CP Tryz.prog 148 [(.A (Cd v))] (Tp v) (fun(p:(Int×Bool))=>AV.tup [(.int .i64 p.1),(.B p.2)]):=Adc Sn v
theorem Agx (v):CP Tryz.prog 121 [.A (Cd v)] (R9 v) (.int .i64):=by
 refine ci 16 1 func121 (R9.eq_1 _) fun h0 ids hI hF=>Y<|B5 0 (.A (Cd v)) fun g=>Ad (.I 0)<|O<|Ar ?_
 refine Y<|Aa 1 [0] [(6,.A (Cd v))]<|oc ((Afx v) _) fun r _=>Aa 5 [] [(4,.B r.2),(3,.I r.1)]<|O<|Ac<|Ao<|Y<|Aa 3 [] [(10,.B (!r.2))]<|O<|H4 J (fun hc=>?_) (fun hc=>?_)
 ·refine Y<|Aa 3 [] [(13,.B (decide (r.1 > 16)))]<|O<|C1 J (fun hc1=>?_) (fun hc1=>?_)
  ·refine Y<|Ad (.I 2)<|O<|rt
  refine Aj<|Ay<|Y<|Ad (.I 0)<|O<|rt
 refine Y<|Ad (.I 1)<|O<|rt
theorem Zk (h0:Ab)(o0:Nat)(o1:Nat)(hI0:Ids h0 [o0,o1] 2):L4≠.bad→Bm Tryz.prog 122 [] (hp h0 [o0,o1] [none,none]) (Ed (fun a_ v h' => ∃ (g2:Nat),∃ (g3:Nat),v=(.ptr o0 g2 0 0)∧h'=hp h0 [o0,o1] [Aq g2 4 [[.nilf,(.func (.func 149) [] []),(.func (.func 152) [] []),(.func (.func 153) [] [(.ptr o1 g3 0 0)])]],Aq g3 1 [[(.ptr o0 g2 0 0)]]]) h0 (L4)):=by
 refine Ef (n:=18) 0 func122 J (by decide) J J hI0 J fun ids he hI=>?_
 clear hI0
 obtain rfl:ix ids 0=o0:=he 0 rfl
 obtain rfl:ix ids 1=o1:=he 1 rfl
 clear he
 refine Ep (Ah (L4.eq_1) ?_)
 refine Y<|Ad .nilp<|O<|Y<|Ax (.A [.nilf,.nilf,.nilf,.nilf]) J (Aah (Ai8 Ow Ov J))<|B5 0 (.A [.nilf,.nilf,.nilf,.nilf]) fun g=>Co 1 Awb fun g1=>Bs (.q ids 0 g) ?_
 refine O<|Ar ?_
 refine Y<|Aa 2 [1] [(5,.q ids 0 g)]<|Ax (.ptr (ix ids 0) g 0 1) J (As (Iz 1 Ow Ov J J))<|Aw (.ptr (ix ids 0) g 0 1)<|Bs (.func (.func 149) [] []) ?_
 refine O<|Ar ?_
 refine Y<|Aa 2 [1] [(9,.q ids 0 g)]<|Ax (.ptr (ix ids 0) g 0 2) J (As (Iz 2 Ow Ov J J))<|Aw (.ptr (ix ids 0) g 0 2)<|Bs (.func (.func 152) [] []) ?_
 refine O<|Ar ?_
 refine Y<|Aa 3 [1] [(14,.q ids 0 g),(13,.func (.func 153) [] [.q ids 1 g1])]<|Ax (.ptr (ix ids 0) g 0 3) J (As (Iz 3 Ow Ov J J))<|Aw (.ptr (ix ids 0) g 0 3)<|Bs (.func (.func 153) [] [.q ids 1 g1]) ?_
 refine O<|Ar ?_
 refine Y<|Aa 2 [1] [(0,.q ids 0 g)]<|O<|Fy (K:=2) (N:=0) [Aq g 4 [[.nilf,.func (.func 149) [] [],.func (.func 152) [] [],.func (.func 153) [] [.q ids 1 g1]]],Aq g1 1 [[.q ids 0 g]]] func122 hI J J J (.keep (.keep .nil)) (.same _) ⟨g,g1,J,J⟩
theorem Add (n):CP Tryz.prog 151 [.int .i64 n] (Rs n) (.int .u64):=by
 refine ci 10 0 func151 (Rs.eq_1 _) fun h0 ids hI hF=>Y<|Ad (.int .u64 0)<|O<|Y<|Ap (.I n)<|Aw (.int .u64 (IntKind.wrap .u64 n))<|Ax (.int .u64 (Qo .u64 (IntKind.wrap .u64 n) 1)) J (Bf J J (Aam (by decide)))<|Ap (.I n)<|Ax (.I (Int.fdiv n 9223372036854775808)) J (Bf J J (Kb (by decide) (by decide)))<|Aw (.int .u64 (IntKind.wrap .u64 (Int.fdiv n 9223372036854775808)))<|Ax (.int .u64 (C2 .u64 (Qo .u64 (IntKind.wrap .u64 n) 1) (IntKind.wrap .u64 (Int.fdiv n 9223372036854775808)))) J (Bf J J Kx)<|Ad (.int .u64 (C2 .u64 (Qo .u64 (IntKind.wrap .u64 n) 1) (IntKind.wrap .u64 (Int.fdiv n 9223372036854775808))))<|O<|rt
theorem Of (u:Int)(l:List Int)(h0:Ab)(o0:Nat)(v1:AV)(g:Nat)(vH:Bp v1 o0 g l.length)(hI0:Ids h0 [o0] 1):Gz u l≠.bad→Bm Tryz.prog 150 [v1,(.int .u64 u)] (hp h0 [o0] [Bb v1 g 1 (List.map (rI .u8) l)]) (Ed (fun a_ v h' => ∃ (v6:AV),∃ (g5:Nat),Bp v6 o0 g5 a_.length∧v6=v∧h'=hp h0 [o0] [Bb v6 g5 1 (List.map (rI .u8) a_)]) h0 (Gz u l)):=by
 refine Ef (n:=20) 0 func150 J (by decide) J J hI0 J fun ids he hI=>?_
 clear hI0
 obtain rfl:ix ids 0=o0:=he 0 rfl
 clear he
 refine Ep (Ah (Gz.eq_1 _ _) ?_)
 refine Y<|Ad .emp<|O<|Ac<|Cu (C7 fun u2 b1=>Ji u2 b1) (C7 fun u2 b1=>fun fr h => ∃ (v4:AV),∃ (g3:Nat),Bp v4 (ix ids 0) g3 b1.length∧fr=Ag [(0,v4),(1,.int .u64 u2)]∧h=hp h0 ids [Bb v4 g3 1 (List.map (rI .u8) b1)]) ?_ fun hJ=>?_
 ·rintro⟨u2,b1⟩ fr h ⟨v4,g3,vH3,rfl,rfl⟩
  refine Ah (Ji.eq_1 _ _)<|Y<|Aa 2 [] [(16,.int .u64 u2),(15,v4)]<|Aw (.int .u8 (IntKind.wrap .u8 u2))<|Dq (e:=(rI .u8)) (L:=[IntKind.wrap .u8 u2]) (st:=1) (rows:=[[.int .u8 (IntKind.wrap .u8 u2)]]) J Df Eg J J J J J (.cons (RowSim.refl _) .nil) (fun x=>Bo x) J J<|B3 fun hl1=>Dj (e:=(rI .u8)) (L:=b1) (L2:=[IntKind.wrap .u8 u2]) (v:=v4) (g:=g3) (st:=1) (j:=0) hI J J J J vH3 J (C9 J) Df Df J Eg J J J hl1 fun v5 g4 vH4=>Ad v5<|O<|Ar ?_
  exact Fy (K:=1) (N:=0) [Bb v5 g4 1 (List.map (rI .u8) (b1++[IntKind.wrap .u8 u2]))] func150 hI J J J (.keep .nil) (.same _) ⟨v5,g4,vH4,J,J⟩
 refine Ao<|B6 [0,1] ?_
 refine Gg (P:=Tryz.prog) (C7 fun u1 b=>I7 u1 b) ((C7 fun u2 b1=>Ji u2 b1):(Int×(List Int))→R (List Int)) (C7 fun u1 b=>fun fr h => ∃ (v2:AV),∃ (g1:Nat),Bp v2 (ix ids 0) g1 b.length∧fr=Ag [(0,v2),(1,.int .u64 u1)]∧h=hp h0 ids [Bb v2 g1 1 (List.map (rI .u8) b)]) (u,l) ?_ ?_
 ·exact⟨v1,g,vH,J,J⟩
 rintro vW hW ⟨u1,b⟩ fr h ⟨v2,g1,vH1,rfl,rfl⟩
 refine Ah (m':=I7 u1 b) J (Ah (I7.eq_1 _ _) ?_)
 refine Ac<|Y<|Aa 2 [] [(6,.B (decide (u1≥128)))]<|O<|C1 J (fun hc=>?_) (fun hc=>?_)
 ·refine Aj<|Ac<|Ao<|Ai<|Aa 2 [] [(10,.int .u64 u1),(9,v2)]<|Aw (.int .u8 (IntKind.wrap .u8 u1))<|Ax (.int .u8 (Mg .u8 (IntKind.wrap .u8 u1) 128)) J (Bf J J Wv)<|Dq (e:=(rI .u8)) (L:=[Mg .u8 (IntKind.wrap .u8 u1) 128]) (st:=1) (rows:=[[.int .u8 (Mg .u8 (IntKind.wrap .u8 u1) 128)]]) J Df Eg J J J J J (.cons (RowSim.refl _) .nil) (fun x=>Bo x) J J<|B3 fun hl=>Dj (e:=(rI .u8)) (L:=b) (L2:=[Mg .u8 (IntKind.wrap .u8 u1) 128]) (v:=v2) (g:=g1) (st:=1) (j:=0) hI J J J J vH1 J (C9 J) Df Df J Eg J J J hl fun v3 g2 vH2=>Ad v3<|O<|Ar ?_
  refine Ay<|Ai<|Ap (.int .u64 u1)<|Ax (.int .u64 (Int.fdiv u1 128)) J (Bf J J (Kb (by decide) (by decide)))<|Ad (.int .u64 (Int.fdiv u1 128))<|O<|A3 (Fa (hW ((Int.fdiv u1 128),b++[Mg .u8 (IntKind.wrap .u8 u1) 128]) _ _ ⟨v3,g2,vH2,J,J⟩))
 refine Bd J<|Ec<|A3 (hJ (u1,b) _ _ ⟨v2,g1,vH1,J,J⟩)
theorem Nm (v1:Value)(l:List Int)(h0:Ab)(o0:Nat)(v2:AV)(g:Nat)(vH:Bp v2 o0 g l.length)(hI0:Ids h0 [o0] 1):Fd v1 l≠.bad→Bm Tryz.prog 149 [v2,(.A (Cd v1))] (hp h0 [o0] [Bb v2 g 1 (List.map (rI .u8) l)]) (Ed (fun a_ v h' => ∃ (v5:AV),∃ (g4:Nat),Bp v5 o0 g4 a_.length∧v5=v∧h'=hp h0 [o0] [Bb v5 g4 1 (List.map (rI .u8) a_)]) h0 (Fd v1 l)):=by
 refine Ef (n:=12) 1 func149 J (by decide) J J hI0 J fun ids he hI=>?_
 clear hI0
 obtain rfl:ix ids 0=o0:=he 0 rfl
 clear he
 refine Ep (Ah (Fd.eq_1 _ _) ?_)
 refine Ar ?_
 refine Y<|B5 1 (.A (Cd v1)) fun g1=>Ad .emp<|O<|Ar ?_
 refine Ac<|By [0,0,3,0,8,31,63,127] [pR 0,pR 3,pR 4,pE 1,pE 2,pE 5,pE 6,pR 7] Dn<|At [1] [(5,v2),(8,.ptr (ix ids 1) g1 0 1),(9,.I v1.N)]<|Fj J J (fun _ _=>J) (fun K hK=>Ky (e:=(rI .u8)) (L:=[1]) (st:=1) (rows:=[[.int .u8 1]]) Df Eg J J J J J (.cons (RowSim.refl _) .nil) (fun x=>Bo x) J J (hK _ _ (D6 [1]) ?_))
 clear hK K
 refine Cz fun hl=>Fj J J (fun _ _=>J) (fun K hK=>Iq (e:=(rI .u8)) (L:=l) (L2:=[1]) (v:=v2) (g:=g) (st:=1) (j:=0) hI J J J vH J (C9 J) Df Df J Eg J J J hl fun v3 g2 vH1=>hK _ _ (D6 [1]) ?_)
 clear hK K
 refine Nr _ J J J J J ((Add v1.N) _) (fun v _ _ _=>E2 (K:=1) (N:=1) func149 hI) Dw fun r _=>Fr [0] hI J J (Of r (l++[1]) _ (ix ids 0) v3 g2 vH1 (by exact hI.sub' J J)) J J J J J J J (fun v _ _ _=>E2 (K:=1) (N:=1) func149 hI) ?_
 rintro r1 _ _ _ ⟨v4,g3,vH2,rfl,rfl⟩
 refine Gl [0] [Bb v4 g3 1 (List.map (rI .u8) r1),Aq g1 4 [Cd v1]] hI J J J J ⟨Dw,?_⟩
 refine Gm<|At [] [(4,v4)]<|Be<|Ar ?_
 exact Fy (K:=1) (N:=1) [Bb v4 g3 1 (List.map (rI .u8) r1)] func149 hI J J J (.keep (.drop .nil)) (.same _) ⟨v4,g3,vH2,J,J⟩
theorem Nn (v1:Value)(l:List Int)(h0:Ab)(o0:Nat)(v2:AV)(g:Nat)(vH:Bp v2 o0 g l.length)(hI0:Ids h0 [o0] 1):Hm v1 l≠.bad→Bm Tryz.prog 152 [v2,(.A (Cd v1))] (hp h0 [o0] [Bb v2 g 1 (List.map (rI .u8) l)]) (Ed (fun a_ v h' => ∃ (v6:AV),∃ (g5:Nat),Bp v6 o0 g5 a_.length∧v6=v∧h'=hp h0 [o0] [Bb v6 g5 1 (List.map (rI .u8) a_)]) h0 (Hm v1 l)):=by
 refine Ef (n:=16) 1 func152 J (by decide) J J hI0 J fun ids he hI=>?_
 clear hI0
 obtain rfl:ix ids 0=o0:=he 0 rfl
 clear he
 refine Ep (Ah (Hm.eq_1 _ _) ?_)
 refine Ar ?_
 refine Y<|B5 1 (.A (Cd v1)) fun g1=>Ad .emp<|O<|Ar ?_
 refine Ac<|By [0,0,3,0,8,24,56,127,0,256,1023,2047] [pR 0,pR 3,pR 4,pR 5,pR 6,pR 8,pR 9,pE 1,pE 2,pE 7,pE 10,pR 11] Dn<|At [1] [(5,v2),(8,.ptr (ix ids 1) g1 0 2),(9,.str v1.S)]<|A0 (.I (v1.S.length:Int)) J J (Ca (Agg Xa))<|A0 (.int .u64 (IntKind.wrap .u64 (v1.S.length:Int))) J J (Kt (Ms Bi V6))<|At [1] [(13,.ptr (ix ids 1) g1 0 2),(14,.str v1.S)]<|Fj J J (fun _ _=>J) (fun K hK=>Ky (e:=(rI .u8)) (L:=[2]) (st:=1) (rows:=[[.int .u8 2]]) Df Eg J J J J J (.cons (RowSim.refl _) .nil) (fun x=>Bo x) J J (hK _ _ (Af J (Bg (A6 hI J J J Xa J)) (Af J (Hs (Nk 0 2 2 N0 J Xa J)) (Af J (Kt (Ms Bi V6)) (Af J (Ca (Agg Xa)) (Af J (Bg (A6 hI J J J Xa J)) (Af J (Hs (Nk 0 2 2 N0 J Xa J)) (Af J Ba C3))))))) ?_))
 clear hK K
 refine Cz fun hl=>Fj J J (fun _ _=>J) (fun K hK=>Iq (e:=(rI .u8)) (L:=l) (L2:=[2]) (v:=v2) (g:=g) (st:=1) (j:=0) hI J J J vH J (C9 J) Df Df J Eg J J J hl fun v3 g2 vH1=>hK _ _ (Af J (Bg (A6 hI J J J Xa J)) (Af J (Hs (Nk 0 2 2 N0 J Xa J)) (Af J (Kt (Ms Bi V6)) (Af J (Ca (Agg Xa)) (Af J (Bg (A6 hI J J J Xa J)) (Af J (Hs (Nk 0 2 2 N0 J Xa J)) (Gu J C3))))))) ?_)
 clear hK K
 refine Fr [0] hI J J (Of (IntKind.wrap .u64 (v1.S.length:Int)) (l++[2]) _ (ix ids 0) v3 g2 vH1 (by exact hI.sub' J J)) J J J J J J J (fun v _ _ _=>E2 (K:=1) (N:=1) func152 hI) ?_
 rintro r _ _ _ ⟨v4,g3,vH2,rfl,rfl⟩
 refine Gl [0] [Bb v4 g3 1 (List.map (rI .u8) r),Aq g1 4 [Cd v1]] hI J J J J ⟨D6 [1],?_⟩
 refine Gm<|Cz fun hl1=>Fj J J (fun _ _=>J) (fun K hK=>Iq (e:=(rI .u8)) (L:=r) (L2:=(N6 v1.S)) (v:=v4) (g:=g3) (st:=1) (j:=0) hI J J J vH2 J (At9 J J) Df Xa J Eg J J J hl1 fun v5 g4 vH3=>hK _ _ Dw ?_)
 clear hK K
 refine At [] [(4,v5)]<|Be<|Ar ?_
 exact Fy (K:=1) (N:=1) [Bb v5 g4 1 (List.map (rI .u8) (r++(N6 v1.S)))] func152 hI J J J (.keep (.drop .nil)) (.same _) ⟨v5,g4,vH3,J,J⟩
theorem We (W_:Value→(List Int)→R (List Int))(cg_W_ : ∀ (v1:Value) (l:List Int) (h0:Ab) (o0:Nat) (o1:Nat) (o2:Nat) (v2:AV) (g:Nat) (g1:Nat) (g2:Nat) (vH:Bp v2 o0 g l.length) (hI0:Ids h0 [o0,o1,o2] 3),W_ v1 l≠.bad→Bm Tryz.prog 153 [v2,(.A (Cd v1)),(.ptr o1 g1 0 0)] (hp h0 [o0,o1,o2] [Bb v2 g 1 (List.map (rI .u8) l),Aq g1 1 [[(.ptr o2 g2 0 0)]],Aq g2 4 [[.nilf,(.func (.func 149) [] []),(.func (.func 152) [] []),(.func (.func 153) [] [(.ptr o1 g1 0 0)])]]]) (Ed (fun a_ v h' => ∃ (v9:AV),∃ (g11:Nat),Bp v9 o0 g11 a_.length∧v9=v∧h'=hp h0 [o0,o1,o2] [Bb v9 g11 1 (List.map (rI .u8) a_),Aq g1 1 [[(.ptr o2 g2 0 0)]],Aq g2 4 [[.nilf,(.func (.func 149) [] []),(.func (.func 152) [] []),(.func (.func 153) [] [(.ptr o1 g1 0 0)])]]]) h0 (W_ v1 l)))(v1:Value)(l:List Int)(h0:Ab)(o0:Nat)(o1:Nat)(o2:Nat)(v2:AV)(g:Nat)(g1:Nat)(g2:Nat)(vH:Bp v2 o0 g l.length)(hI0:Ids h0 [o0,o1,o2] 3):Lc W_ v1 l≠.bad→Bm Tryz.prog 153 [v2,(.A (Cd v1)),(.ptr o1 g1 0 0)] (hp h0 [o0,o1,o2] [Bb v2 g 1 (List.map (rI .u8) l),Aq g1 1 [[(.ptr o2 g2 0 0)]],Aq g2 4 [[.nilf,(.func (.func 149) [] []),(.func (.func 152) [] []),(.func (.func 153) [] [(.ptr o1 g1 0 0)])]]]) (Ed (fun a_ v h' => ∃ (v9:AV),∃ (g11:Nat),Bp v9 o0 g11 a_.length∧v9=v∧h'=hp h0 [o0,o1,o2] [Bb v9 g11 1 (List.map (rI .u8) a_),Aq g1 1 [[(.ptr o2 g2 0 0)]],Aq g2 4 [[.nilf,(.func (.func 149) [] []),(.func (.func 152) [] []),(.func (.func 153) [] [(.ptr o1 g1 0 0)])]]]) h0 (Lc W_ v1 l)):=by
 refine Ef (n:=35) 2 func153 J (by decide) J J hI0 J fun ids he hI=>?_
 clear hI0
 obtain rfl:ix ids 0=o0:=he 0 rfl
 obtain rfl:ix ids 1=o1:=he 1 rfl
 obtain rfl:ix ids 2=o2:=he 2 rfl
 clear he
 refine Ep (Ah (Lc.eq_1 _ _ _) ?_)
 refine Ar ?_
 refine Y<|B5 3 (.A (Cd v1)) fun g3=>Ad .emp<|O<|Ar ?_
 refine Ac<|By [0,0,3,0,8,24,56,127,255] [pR 0,pR 3,pR 4,pR 5,pR 6,pE 1,pE 2,pE 7,pR 8] Dn<|At [3] [(8,v2),(11,.ptr (ix ids 3) g3 0 3),(12,.sl 4 (List.map rValueA v1.L))]<|A0 (.I (v1.L.length:Int)) J J (Ca (Cw J5))<|A0 (.int .u64 (IntKind.wrap .u64 (v1.L.length:Int))) J J (Kt (Ms Bi V6))<|Fj J J (fun _ _=>J) (fun K hK=>Ky (e:=(rI .u8)) (L:=[3]) (st:=1) (rows:=[[.int .u8 3]]) Df Eg J J J J J (.cons (RowSim.refl _) .nil) (fun x=>Bo x) J J (hK _ _ (Af J (Kt (Ms Bi V6)) (Af J (Ca (Cw J5)) (Af J (Bg (A6 hI J J J J5 J)) (Af J (Hs (Nk 0 3 3 N0 J J5 J)) (Af J Ba C3))))) ?_))
 clear hK K
 refine Cz fun hl=>Fj J J (fun _ _=>J) (fun K hK=>Iq (e:=(rI .u8)) (L:=l) (L2:=[3]) (v:=v2) (g:=g) (st:=1) (j:=0) hI J J J vH J (C9 J) Df Df J Eg J J J hl fun v3 g4 vH1=>hK _ _ (Af J (Kt (Ms Bi V6)) (Af J (Ca (Cw J5)) (Af J (Bg (A6 hI J J J J5 J)) (Af J (Hs (Nk 0 3 3 N0 J J5 J)) (Gu J C3))))) ?_)
 clear hK K
 refine Fr [0] hI J J (Of (IntKind.wrap .u64 (v1.L.length:Int)) (l++[3]) _ (ix ids 0) v3 g4 vH1 (by exact hI.sub' J J)) J J J J J J J (fun v _ _ _=>E2 (K:=3) (N:=2) func153 hI) ?_
 rintro b _ _ _ ⟨v4,g5,vH2,rfl,rfl⟩
 refine Gl [0] [Bb v4 g5 1 (List.map (rI .u8) b),Aq g1 1 [[.q ids 2 g2]],Aq g2 4 [[.nilf,.func (.func 149) [] [],.func (.func 152) [] [],.func (.func 153) [] [.q ids 1 g1]]],Aq g3 4 [Cd v1],none] hI J J J J ⟨Dw,?_⟩
 refine Gm<|At [] [(0,v4)]<|Be<|Ar ?_
 refine Ac<|Y<|Aa 2 [3] [(17,.sl 4 (List.map rValueA v1.L))]<|Bl v1.L<|Ap (.I 0)<|O<|Ao<|Cc 8<|B6 [0,2,17,18,19] ?_
 refine De (P:=Tryz.prog) v1.L (fun _ a=>fun b1=>Kg W_ a b1) (((fun b1=>.ok b1)):(List Int)→R (List Int)) (fun j=>fun b1=>fun fr h => ∃ (v5:AV),∃ (g6:Nat),Bp v5 (ix ids 0) g6 b1.length∧fr=Ag [(0,v5),(2,.q ids 1 g1),(17,.sl 4 (List.map rValueA v1.L)),(18,.I (v1.L.length:Int)),(19,.I j)]∧h=hp h0 ids [Bb v5 g6 1 (List.map (rI .u8) b1),Aq g1 1 [[.q ids 2 g2]],Aq g2 4 [[.nilf,.func (.func 149) [] [],.func (.func 152) [] [],.func (.func 153) [] [.q ids 1 g1]]],none,none]) b ?_ ?_ ?_
 ·exact⟨v4,g5,vH2,J,J⟩
 ·rintro j a ha W hW b1 fr h ⟨v5,g6,vH3,rfl,rfl⟩
  refine Ah (m':=Kg W_ a b1) J (Ah (Kg.eq_1 _ _ _) ?_)
  refine Y<|Aw (.B (decide ((j:Int)<(v1.L.length:Int))))<|O<|Ac<|Cp (t:=17) (L:=v1.L) J fun hlim=>Bx J (Int.ofNat_lt.2 (Au ha))<|Aj<|Ac<|Ao<|Y<|Ax (.cp (Cd a) 0) J (As (Aek Tw J5 N0 J ha))<|Aw (.A (Cd a))<|Co 4 N0 fun g7=>Bs (.A (Cd a)) ?_
  refine O<|Ar ?_
  refine By [0,0,2,1,15,31,63,0,0,511,1023] [pR 0,pR 1,pR 2,pR 3,pR 4,pR 5,pR 6,pR 7,pR 8,pE 9,pR 10] Dn<|At [1,4] [(23,.q ids 2 g2),(24,.q ids 4 g7),(25,.I a.Kind),(26,.q ids 2 g2)]<|Jb (fun hi=>?_) (fun _=>?_)
  ·refine A0 (.q ids 2 g2) J J (As (Iz 0 Ow Ov hi J))<|At [2,4] [(28,.q ids 2 g2),(29,.nilf),(30,v5),(31,.A (Cd a))]<|Vb
  refine Jb (fun hi=>?_) (fun _=>?_)
  ·refine A0 (.ptr (ix ids 2) g2 0 1) J J (As (Iz 1 Ow Ov hi J))<|At [2,4] [(28,.ptr (ix ids 2) g2 0 1),(29,.func (.func 149) [] []),(30,v5),(31,.A (Cd a))]<|Fr [0] hI J J (Nm a b1 _ (ix ids 0) v5 g6 vH3 (by exact hI.sub' J J)) J J J J J J J (fun v _ _ _=>E2 (K:=3) (N:=2) func153 hI) ?_
   rintro b2 _ _ _ ⟨v6,g8,vH4,rfl,rfl⟩
   refine Gl [0] [Bb v6 g8 1 (List.map (rI .u8) b2),Aq g1 1 [[.q ids 2 g2]],Aq g2 4 [[.nilf,.func (.func 149) [] [],.func (.func 152) [] [],.func (.func 153) [] [.q ids 1 g1]]],none,Aq g7 4 [Cd a]] hI J J J J ⟨Dw,?_⟩
   refine Gm<|At [] [(0,v6)]<|Be<|Ar ?_
   refine Ay<|Ai<|Aa 2 [] [(19,.I (wi ((j:Int)+1)))]<|O<|Cc 16<|A3 (Gf (hW b2 _ _ ⟨v6,g8,vH4,J,J⟩)) (.r4 (.o (ic ha hlim)))
  refine Jb (fun hi=>?_) (fun _=>?_)
  ·refine A0 (.ptr (ix ids 2) g2 0 2) J J (As (Iz 2 Ow Ov hi J))<|At [2,4] [(28,.ptr (ix ids 2) g2 0 2),(29,.func (.func 152) [] []),(30,v5),(31,.A (Cd a))]<|Fr [0] hI J J (Nn a b1 _ (ix ids 0) v5 g6 vH3 (by exact hI.sub' J J)) J J J J J J J (fun v _ _ _=>E2 (K:=3) (N:=2) func153 hI) ?_
   rintro b3 _ _ _ ⟨v7,g9,vH5,rfl,rfl⟩
   refine Gl [0] [Bb v7 g9 1 (List.map (rI .u8) b3),Aq g1 1 [[.q ids 2 g2]],Aq g2 4 [[.nilf,.func (.func 149) [] [],.func (.func 152) [] [],.func (.func 153) [] [.q ids 1 g1]]],none,Aq g7 4 [Cd a]] hI J J J J ⟨Dw,?_⟩
   refine Gm<|At [] [(0,v7)]<|Be<|Ar ?_
   refine Ay<|Ai<|Aa 2 [] [(19,.I (wi ((j:Int)+1)))]<|O<|Cc 16<|A3 (Gf (hW b3 _ _ ⟨v7,g9,vH5,J,J⟩)) (.r4 (.o (ic ha hlim)))
  refine Jb (fun hi=>?_) (fun _=>?_)
  ·refine A0 (.ptr (ix ids 2) g2 0 3) J J (As (Iz 3 Ow Ov hi J))<|At [2,4] [(28,.ptr (ix ids 2) g2 0 3),(29,.func (.func 153) [] [.q ids 1 g1]),(30,v5),(31,.A (Cd a))]<|Fr [0,1,2] hI J J (cg_W_ a b1 _ (ix ids 0) (ix ids 1) (ix ids 2) v5 g6 g1 g2 vH3 (by exact hI.sub' J J)) J J J J J J J (fun v _ _ _=>E2 (K:=3) (N:=2) func153 hI) ?_
   rintro b4 _ _ _ ⟨v8,g10,vH6,rfl,rfl⟩
   refine Gl [0,1,2] [Bb v8 g10 1 (List.map (rI .u8) b4),Aq g1 1 [[.q ids 2 g2]],Aq g2 4 [[.nilf,.func (.func 149) [] [],.func (.func 152) [] [],.func (.func 153) [] [.q ids 1 g1]]],none,Aq g7 4 [Cd a]] hI J J J J ⟨Dw,?_⟩
   refine Gm<|At [] [(0,v8)]<|Be<|Ar ?_
   refine Ay<|Ai<|Aa 2 [] [(19,.I (wi ((j:Int)+1)))]<|O<|Cc 16<|A3 (Gf (hW b4 _ _ ⟨v8,g10,vH6,J,J⟩)) (.r4 (.o (ic ha hlim)))
  exact Vb
 rintro b1 fr h ⟨v5,g6,vH3,rfl,rfl⟩
 refine Y<|Aw (.B (decide ((v1.L.length:Int)<(v1.L.length:Int))))<|O<|Ac<|Bw J (Int.lt_irrefl _)<|Bd J<|Y<|Aa 2 [] [(5,v5)]<|O<|Fy (K:=3) (N:=2) [Bb v5 g6 1 (List.map (rI .u8) b1),Aq g1 1 [[.q ids 2 g2]],Aq g2 4 [[.nilf,.func (.func 149) [] [],.func (.func 152) [] [],.func (.func 153) [] [.q ids 1 g1]]]] func153 hI J J J (.keep (.keep (.keep (.keep (.keep .nil))))) (.same _) ⟨v5,g6,vH3,J,J⟩
theorem V9 : ∀ (n:Nat) (v1:Value) (l:List Int) (h0:Ab) (o0:Nat) (o1:Nat) (o2:Nat) (v2:AV) (g:Nat) (g1:Nat) (g2:Nat) (vH:Bp v2 o0 g l.length) (hI0:Ids h0 [o0,o1,o2] 3),Ig n v1 l≠.bad→Bm Tryz.prog 153 [v2,(.A (Cd v1)),(.ptr o1 g1 0 0)] (hp h0 [o0,o1,o2] [Bb v2 g 1 (List.map (rI .u8) l),Aq g1 1 [[(.ptr o2 g2 0 0)]],Aq g2 4 [[.nilf,(.func (.func 149) [] []),(.func (.func 152) [] []),(.func (.func 153) [] [(.ptr o1 g1 0 0)])]]]) (Ed (fun a_ v h' => ∃ (v9:AV),∃ (g11:Nat),Bp v9 o0 g11 a_.length∧v9=v∧h'=hp h0 [o0,o1,o2] [Bb v9 g11 1 (List.map (rI .u8) a_),Aq g1 1 [[(.ptr o2 g2 0 0)]],Aq g2 4 [[.nilf,(.func (.func 149) [] []),(.func (.func 152) [] []),(.func (.func 153) [] [(.ptr o1 g1 0 0)])]]]) h0 (Ig n v1 l)):=by
 intro n
 induction n with
 | zero=>intro v1 l h0 o0 o1 o2 v2 g g1 g2 vH hI0; exact fun hb=>absurd rfl hb
 | succ n ih=>intro v1 l h0 o0 o1 o2 v2 g g1 g2 vH hI0; exact We (Ig n) ih v1 l h0 o0 o1 o2 v2 g g1 g2 vH hI0
theorem Xm (v1:Value)(l:List Int)(h0:Ab)(o0:Nat)(o1:Nat)(o2:Nat)(v2:AV)(g:Nat)(g1:Nat)(g2:Nat)(vH:Bp v2 o0 g l.length)(hI0:Ids h0 [o0,o1,o2] 3):Pw v1 l≠.bad→Bm Tryz.prog 153 [v2,(.A (Cd v1)),(.ptr o1 g1 0 0)] (hp h0 [o0,o1,o2] [Bb v2 g 1 (List.map (rI .u8) l),Aq g1 1 [[(.ptr o2 g2 0 0)]],Aq g2 4 [[.nilf,(.func (.func 149) [] []),(.func (.func 152) [] []),(.func (.func 153) [] [(.ptr o1 g1 0 0)])]]]) (Ed (fun a_ v h' => ∃ (v9:AV),∃ (g11:Nat),Bp v9 o0 g11 a_.length∧v9=v∧h'=hp h0 [o0,o1,o2] [Bb v9 g11 1 (List.map (rI .u8) a_),Aq g1 1 [[(.ptr o2 g2 0 0)]],Aq g2 4 [[.nilf,(.func (.func 149) [] []),(.func (.func 152) [] []),(.func (.func 153) [] [(.ptr o1 g1 0 0)])]]]) h0 (Pw v1 l)):=V9 Sn v1 l h0 o0 o1 o2 v2 g g1 g2 vH hI0
theorem Za (v1:Value)(h0:Ab)(o0:Nat)(o1:Nat)(g:Nat)(g1:Nat)(hI0:Ids h0 [o0,o1] 2):Lk v1≠.bad→Bm Tryz.prog 153 [.emp,(.A (Cd v1)),(.ptr o0 g 0 0)] (hp h0 [o0,o1] [Aq g 1 [[(.ptr o1 g1 0 0)]],Aq g1 4 [[.nilf,(.func (.func 149) [] []),(.func (.func 152) [] []),(.func (.func 153) [] [(.ptr o0 g 0 0)])]]]) (Ed (fun a_ v h'=>v=(.sl 1 (List.map (rI .u8) a_))∧h'=hp h0 [o0,o1] [Aq g 1 [[(.ptr o1 g1 0 0)]],Aq g1 4 [[.nilf,(.func (.func 149) [] []),(.func (.func 152) [] []),(.func (.func 153) [] [(.ptr o0 g 0 0)])]]]) h0 (Lk v1)):=by
 refine Ef (n:=35) 3 func153 J (by decide) J J hI0 J fun ids he hI=>?_
 clear hI0
 obtain rfl:ix ids 0=o0:=he 0 rfl
 obtain rfl:ix ids 1=o1:=he 1 rfl
 clear he
 refine Ep (Ah (Lk.eq_1 _) ?_)
 refine Ar ?_
 refine Y<|B5 2 (.A (Cd v1)) fun g2=>Ad .emp<|O<|Ar ?_
 refine Ac<|By [0,0,3,0,8,24,56,127,255] [pR 0,pR 3,pR 4,pR 5,pR 6,pE 1,pE 2,pE 7,pR 8] Dn<|At [2] [(8,.emp),(11,.ptr (ix ids 2) g2 0 3),(12,.sl 4 (List.map rValueA v1.L))]<|A0 (.I (v1.L.length:Int)) J J (Ca (Cw J5))<|A0 (.int .u64 (IntKind.wrap .u64 (v1.L.length:Int))) J J (Kt (Ms Bi V6))<|Fj J J (fun _ _=>J) (fun K hK=>Ky (e:=(rI .u8)) (L:=[3]) (st:=1) (rows:=[[.int .u8 3]]) Df Eg J J J J J (.cons (RowSim.refl _) .nil) (fun x=>Bo x) J J (hK _ _ (Af J (Kt (Ms Bi V6)) (Af J (Ca (Cw J5)) (Af J (Bg (A6 hI J J J J5 J)) (Af J (Hs (Nk 0 3 3 N0 J J5 J)) (Af J Ba C3))))) ?_))
 clear hK K
 refine Cz fun hl=>Fj J J (fun _ _=>J) (fun K hK=>Iq (e:=(rI .u8)) (L:=([]:List Int)) (L2:=[3]) (v:=.emp) (g:=0) (st:=1) (j:=3) hI J J J .nil J (C9 J) Df Df J Eg J J J (by simpa using hl) fun v2 g3 vH=>hK _ _ (Af J (Kt (Ms Bi V6)) (Af J (Ca (Cw J5)) (Af J (Bg (A6 hI J J J J5 J)) (Af J (Hs (Nk 0 3 3 N0 J J5 J)) (Gu J C3))))) ?_)
 clear hK K
 refine Fr [3] hI J J (Of (IntKind.wrap .u64 (v1.L.length:Int)) [3] _ (ix ids 3) v2 g3 vH (by exact hI.sub' J J)) J J J J J J J (fun v _ _ _=>E2 (K:=2) (N:=3) func153 hI) ?_
 rintro b _ _ _ ⟨v3,g4,vH1,rfl,rfl⟩
 refine Gl [3] [Aq g 1 [[.q ids 1 g1]],Aq g1 4 [[.nilf,.func (.func 149) [] [],.func (.func 152) [] [],.func (.func 153) [] [.q ids 0 g]]],Aq g2 4 [Cd v1],Bb v3 g4 1 (List.map (rI .u8) b),none] hI J J J J ⟨Dw,?_⟩
 refine Gm<|At [] [(0,v3)]<|Be<|Ar ?_
 refine Ac<|Y<|Aa 2 [2] [(17,.sl 4 (List.map rValueA v1.L))]<|Bl v1.L<|Ap (.I 0)<|O<|Ao<|Cc 4<|B6 [0,2,17,18,19] ?_
 refine De (P:=Tryz.prog) v1.L (fun _ a=>fun b1=>G0 a b1) (((fun b1=>.ok b1)):(List Int)→R (List Int)) (fun j=>fun b1=>fun fr h => ∃ (v4:AV),∃ (g5:Nat),Bp v4 (ix ids 3) g5 b1.length∧fr=Ag [(0,v4),(2,.q ids 0 g),(17,.sl 4 (List.map rValueA v1.L)),(18,.I (v1.L.length:Int)),(19,.I j)]∧h=hp h0 ids [Aq g 1 [[.q ids 1 g1]],Aq g1 4 [[.nilf,.func (.func 149) [] [],.func (.func 152) [] [],.func (.func 153) [] [.q ids 0 g]]],none,Bb v4 g5 1 (List.map (rI .u8) b1),none]) b ?_ ?_ ?_
 ·exact⟨v3,g4,vH1,J,J⟩
 ·rintro j a ha W hW b1 fr h ⟨v4,g5,vH2,rfl,rfl⟩
  refine Ah (m':=G0 a b1) J (Ah (G0.eq_1 _ _) ?_)
  refine Y<|Aw (.B (decide ((j:Int)<(v1.L.length:Int))))<|O<|Ac<|Cp (t:=17) (L:=v1.L) J fun hlim=>Bx J (Int.ofNat_lt.2 (Au ha))<|Aj<|Ac<|Ao<|Y<|Ax (.cp (Cd a) 0) J (As (Aek Tw J5 N0 J ha))<|Aw (.A (Cd a))<|Co 4 N0 fun g6=>Bs (.A (Cd a)) ?_
  refine O<|Ar ?_
  refine By [0,0,2,1,15,31,63,0,0,511,1023] [pR 0,pR 1,pR 2,pR 3,pR 4,pR 5,pR 6,pR 7,pR 8,pE 9,pR 10] Dn<|At [0,4] [(23,.q ids 1 g1),(24,.q ids 4 g6),(25,.I a.Kind),(26,.q ids 1 g1)]<|Jb (fun hi=>?_) (fun _=>?_)
  ·refine A0 (.q ids 1 g1) J J (As (Iz 0 Ow Ov hi J))<|At [1,4] [(28,.q ids 1 g1),(29,.nilf),(30,v4),(31,.A (Cd a))]<|Vb
  refine Jb (fun hi=>?_) (fun _=>?_)
  ·refine A0 (.ptr (ix ids 1) g1 0 1) J J (As (Iz 1 Ow Ov hi J))<|At [1,4] [(28,.ptr (ix ids 1) g1 0 1),(29,.func (.func 149) [] []),(30,v4),(31,.A (Cd a))]<|Fr [3] hI J J (Nm a b1 _ (ix ids 3) v4 g5 vH2 (by exact hI.sub' J J)) J J J J J J J (fun v _ _ _=>E2 (K:=2) (N:=3) func153 hI) ?_
   rintro b2 _ _ _ ⟨v5,g7,vH3,rfl,rfl⟩
   refine Gl [3] [Aq g 1 [[.q ids 1 g1]],Aq g1 4 [[.nilf,.func (.func 149) [] [],.func (.func 152) [] [],.func (.func 153) [] [.q ids 0 g]]],none,Bb v5 g7 1 (List.map (rI .u8) b2),Aq g6 4 [Cd a]] hI J J J J ⟨Dw,?_⟩
   refine Gm<|At [] [(0,v5)]<|Be<|Ar ?_
   refine Ay<|Ai<|Aa 2 [] [(19,.I (wi ((j:Int)+1)))]<|O<|Cc 16<|A3 (Gf (hW b2 _ _ ⟨v5,g7,vH3,J,J⟩)) (.r4 (.o (ic ha hlim)))
  refine Jb (fun hi=>?_) (fun _=>?_)
  ·refine A0 (.ptr (ix ids 1) g1 0 2) J J (As (Iz 2 Ow Ov hi J))<|At [1,4] [(28,.ptr (ix ids 1) g1 0 2),(29,.func (.func 152) [] []),(30,v4),(31,.A (Cd a))]<|Fr [3] hI J J (Nn a b1 _ (ix ids 3) v4 g5 vH2 (by exact hI.sub' J J)) J J J J J J J (fun v _ _ _=>E2 (K:=2) (N:=3) func153 hI) ?_
   rintro b3 _ _ _ ⟨v6,g8,vH4,rfl,rfl⟩
   refine Gl [3] [Aq g 1 [[.q ids 1 g1]],Aq g1 4 [[.nilf,.func (.func 149) [] [],.func (.func 152) [] [],.func (.func 153) [] [.q ids 0 g]]],none,Bb v6 g8 1 (List.map (rI .u8) b3),Aq g6 4 [Cd a]] hI J J J J ⟨Dw,?_⟩
   refine Gm<|At [] [(0,v6)]<|Be<|Ar ?_
   refine Ay<|Ai<|Aa 2 [] [(19,.I (wi ((j:Int)+1)))]<|O<|Cc 16<|A3 (Gf (hW b3 _ _ ⟨v6,g8,vH4,J,J⟩)) (.r4 (.o (ic ha hlim)))
  refine Jb (fun hi=>?_) (fun _=>?_)
  ·refine A0 (.ptr (ix ids 1) g1 0 3) J J (As (Iz 3 Ow Ov hi J))<|At [1,4] [(28,.ptr (ix ids 1) g1 0 3),(29,.func (.func 153) [] [.q ids 0 g]),(30,v4),(31,.A (Cd a))]<|Fr [3,0,1] hI J J (Xm a b1 _ (ix ids 3) (ix ids 0) (ix ids 1) v4 g5 g g1 vH2 (by exact hI.sub' J J)) J J J J J J J (fun v _ _ _=>E2 (K:=2) (N:=3) func153 hI) ?_
   rintro b4 _ _ _ ⟨v7,g9,vH5,rfl,rfl⟩
   refine Gl [3,0,1] [Aq g 1 [[.q ids 1 g1]],Aq g1 4 [[.nilf,.func (.func 149) [] [],.func (.func 152) [] [],.func (.func 153) [] [.q ids 0 g]]],none,Bb v7 g9 1 (List.map (rI .u8) b4),Aq g6 4 [Cd a]] hI J J J J ⟨Dw,?_⟩
   refine Gm<|At [] [(0,v7)]<|Be<|Ar ?_
   refine Ay<|Ai<|Aa 2 [] [(19,.I (wi ((j:Int)+1)))]<|O<|Cc 16<|A3 (Gf (hW b4 _ _ ⟨v7,g9,vH5,J,J⟩)) (.r4 (.o (ic ha hlim)))
  exact Vb
 rintro b1 fr h ⟨v4,g5,vH2,rfl,rfl⟩
 refine Y<|Aw (.B (decide ((v1.L.length:Int)<(v1.L.length:Int))))<|O<|Ac<|Bw J (Int.lt_irrefl _)<|Bd J<|Y<|Aa 2 [] [(5,v4)]<|O<|Fy (K:=2) (N:=3) [Aq g 1 [[.q ids 1 g1]],Aq g1 4 [[.nilf,.func (.func 149) [] [],.func (.func 152) [] [],.func (.func 153) [] [.q ids 0 g]]]] func153 hI J J J (.keep (.keep (.keep (.drop (.keep .nil))))) (E5 vH2 (hI.at J J) (hI.at J J) (fun x=>Bo x)) ⟨J,J⟩
theorem Ae7 (v):CP Tryz.prog 96 [.A (Cd v)] (O1 v) (fun p=>AV.tup [.sl 1 (List.map (rI .u8) p.1),.int .i64 p.2]):=by
 refine ci 19 4 func96 (O1.eq_1 _) fun h0 ids hI hF=>Y<|B5 0 (.A (Cd v)) fun g=>Aa 2 [] []<|O<|Ar ?_
 refine Ac<|Y<|Aa 1 [0] [(5,.A (Cd v))]<|oc ((Agx v) _) fun e _=>Ad (.I e)<|O<|Y<|Aa 2 [] [(8,.B (e != 0))]<|O<|A8 J (fun hc=>?_) (fun hc=>?_)
 ·refine Y<|Aa 3 [] [(3,.I e),(2,.emp)]<|O<|Bu func96 hI J (.tupL (.cons (.emp _) .s1))
 refine Aj<|Ac<|By [0,0,2,1,15,31,63,0,255,511,1023] [pR 1,pR 2,pR 7,pE 0,pR 3,pR 4,pR 5,pR 6,pE 8,pR 9,pR 10] Dn<|At [0,0] [(11,.q ids 0 g),(12,.I v.Kind),(17,.A (Cd v))]<|Fr [1,2] hI J J (Zk _ (ix ids 1) (ix ids 2) (by exact hI.sub' J J)) J J J J J J J (fun v _ _ _=>Dt func96 hI) ?_
 rintro _ _ _ _ ⟨g1,g2,rfl,rfl⟩
 refine Gl [1,2] [Aq g 4 [Cd v],Aq g1 4 [[.nilf,.func (.func 149) [] [],.func (.func 152) [] [],.func (.func 153) [] [.q ids 2 g2]]],Aq g2 1 [[.q ids 1 g1]],none] hI J J J J ⟨D6 [0,0],?_⟩
 refine Gm<|At [] [(13,.q ids 1 g1)]<|Jb (fun hi=>?_) (fun _=>?_)
 ·refine A0 (.q ids 1 g1) J J (As (Iz 0 Ow Ov hi J))<|At [1] [(15,.q ids 1 g1),(16,.nilf)]<|Vb
 refine Jb (fun hi=>?_) (fun _=>?_)
 ·refine A0 (.ptr (ix ids 1) g1 0 1) J J (As (Iz 1 Ow Ov hi J))<|At [1] [(15,.ptr (ix ids 1) g1 0 1),(16,.func (.func 149) [] [])]<|Fr [3] hI J J (Nm v [] _ (ix ids 3) .emp 0 .nil (by exact hI.sub' J J)) J J J J J J J (fun v _ _ _=>Dt func96 hI) ?_
  rintro b _ _ _ ⟨v1,g3,vH,rfl,rfl⟩
  refine Gl [3] [Aq g 4 [Cd v],Aq g1 4 [[.nilf,.func (.func 149) [] [],.func (.func 152) [] [],.func (.func 153) [] [.q ids 2 g2]]],Aq g2 1 [[.q ids 1 g1]],Bb v1 g3 1 (List.map (rI .u8) b)] hI J J J J ⟨Dw,?_⟩
  refine Gm<|At [] [(2,v1),(3,.I 0)]<|Be<|Ar ?_
  exact Bu func96 hI J (.tupL (.cons (E5 vH (hI.at J J) (hI.out J) (fun x=>Bo x)) .s1))
 refine Jb (fun hi=>?_) (fun _=>?_)
 ·refine A0 (.ptr (ix ids 1) g1 0 2) J J (As (Iz 2 Ow Ov hi J))<|At [1] [(15,.ptr (ix ids 1) g1 0 2),(16,.func (.func 152) [] [])]<|Fr [3] hI J J (Nn v [] _ (ix ids 3) .emp 0 .nil (by exact hI.sub' J J)) J J J J J J J (fun v _ _ _=>Dt func96 hI) ?_
  rintro b1 _ _ _ ⟨v2,g4,vH1,rfl,rfl⟩
  refine Gl [3] [Aq g 4 [Cd v],Aq g1 4 [[.nilf,.func (.func 149) [] [],.func (.func 152) [] [],.func (.func 153) [] [.q ids 2 g2]]],Aq g2 1 [[.q ids 1 g1]],Bb v2 g4 1 (List.map (rI .u8) b1)] hI J J J J ⟨Dw,?_⟩
  refine Gm<|At [] [(2,v2),(3,.I 0)]<|Be<|Ar ?_
  exact Bu func96 hI J (.tupL (.cons (E5 vH1 (hI.at J J) (hI.out J) (fun x=>Bo x)) .s1))
 refine Jb (fun hi=>?_) (fun _=>?_)
 ·refine A0 (.ptr (ix ids 1) g1 0 3) J J (As (Iz 3 Ow Ov hi J))<|At [1] [(15,.ptr (ix ids 1) g1 0 3),(16,.func (.func 153) [] [.q ids 2 g2])]<|Fr [2,1] hI J J (Za v _ (ix ids 2) (ix ids 1) g2 g1 (by exact hI.sub' J J)) J J J J J J J (fun v _ _ _=>Dt func96 hI) ?_
  rintro b2 _ _ _ ⟨rfl,rfl⟩
  refine Gl [2,1] [Aq g 4 [Cd v],Aq g1 4 [[.nilf,.func (.func 149) [] [],.func (.func 152) [] [],.func (.func 153) [] [.q ids 2 g2]]],Aq g2 1 [[.q ids 1 g1]],none] hI J J J J ⟨Dw,?_⟩
  refine Gm<|At [] [(2,.sl 1 (List.map (rI .u8) b2)),(3,.I 0)]<|Be<|Ar ?_
  exact Bu func96 hI J (.tupL .s2)
 exact Vb
theorem Agk (b):CP Tryz.prog 155 [.sl 1 (List.map (rI .u8) b)] (R6 b) (.int .u32):=by
 refine ci 19 0 func155 (R6.eq_1 _) fun h0 ids hI hF=>Y<|Ad (.int .u32 0)<|O<|Ac<|Y<|Ap (.sl 1 (List.map (rI .u8) b))<|B3 fun hs=>Ax (.sl 1 (List.map (rI .u8) (b.take (Int.toNat 4)))) J (B2 (M4 Df Eg J hs))<|Bl (b.take (Int.toNat 4))<|Ap (.I 0)<|O<|Ao<|B6 [2,6,7,8] ?_
 refine De (P:=Tryz.prog) (b.take (Int.toNat 4)) (fun _ a=>fun n=>Rp a n) (((fun n=>.ok n)):Int→R Int) (fun j=>fun n=>fun fr h=>fr=Ag [(2,.int .u32 n),(6,.sl 1 (List.map (rI .u8) (b.take (Int.toNat 4)))),(7,.I ((b.take (Int.toNat 4)).length:Int)),(8,.I j)]∧h=hp h0 ids []) 0 ?_ ?_ ?_
 ·exact⟨J,J⟩
 ·rintro j a ha W hW n fr h ⟨rfl,rfl⟩
  refine Ah (m':=Rp a n) J (Ah (Rp.eq_1 _ _) ?_)
  refine Y<|Aw (.B (decide ((j:Int)<((b.take (Int.toNat 4)).length:Int))))<|O<|Ac<|Cp (t:=6) (L:=(b.take (Int.toNat 4))) J fun hlim=>Bx J (Int.ofNat_lt.2 (Au ha))<|Aj<|Ac<|Ao<|Y<|Ax (.cp [.int .u8 a] 0) J (As (Cl Df Eg J ha))<|Aa 2 [] [(4,.int .u8 a)]<|O<|Ai<|Ap (.int .u32 n)<|Ax (.int .u32 (Qo .u32 n 8)) J (Bf J J (Aam (by decide)))<|Ap (.int .u8 a)<|Aw (.int .u32 (wU a))<|Ax (.int .u32 (Mg .u32 (Qo .u32 n 8) (wU a))) J (Bf J J Wv) ?_
  refine Ad (.int .u32 (Mg .u32 (Qo .u32 n 8) (wU a)))<|O<|Ay<|Ai<|Aa 2 [] [(8,.I (wi ((j:Int)+1)))]<|O<|A3 (Gf (hW (Mg .u32 (Qo .u32 n 8) (wU a)) _ _ ⟨J,J⟩)) (.r2 (.r (.o (ic ha hlim))))
 rintro n fr h ⟨rfl,rfl⟩
 refine Y<|Aw (.B (decide (((b.take (Int.toNat 4)).length:Int)<((b.take (Int.toNat 4)).length:Int))))<|O<|Ac<|Bw J (Int.lt_irrefl _)<|Bd J<|Y<|Aa 2 [] [(2,.int .u32 n)]<|O<|rt
theorem Es (a k):CP Tryz.prog 156 [.int .u32 a,.int .i64 k] (C4 a k) (.int .u32):=by
 refine ci 17 0 func156 (C4.eq_1 _ _) fun h0 ids hI hF=>Y<|Ad (.int .u32 0)<|O<|Y<|Ap (.I k)<|Aw (.int .u64 (IntKind.wrap .u64 k))<|Ax (.int .u64 (Ej .u64 (IntKind.wrap .u64 k) 31)) J (Bf J J S7)<|Ad (.int .u64 (Ej .u64 (IntKind.wrap .u64 k) 31))<|O<|Y<|Aa 2 [] [(10,.int .u64 (Ej .u64 (IntKind.wrap .u64 k) 31)),(9,.int .u32 a)]<|B3 fun hz=>Ax (.int .u32 (Qo .u32 a (Ej .u64 (IntKind.wrap .u64 k) 31))) J (Bf J J (Aam hz))<|Aa 3 [] [(14,.int .u64 (IntKind.wrap .u64 (32 - (Ej .u64 (IntKind.wrap .u64 k) 31)))),(12,.int .u32 a)]<|B3 fun hz1=>Ax (.int .u32 (O9 .u32 a (IntKind.wrap .u64 (32 - (Ej .u64 (IntKind.wrap .u64 k) 31))))) J (Bf J J (Z5 hz1))<|Ax (.int .u32 (Mg .u32 (Qo .u32 a (Ej .u64 (IntKind.wrap .u64 k) 31)) (O9 .u32 a (IntKind.wrap .u64 (32 - (Ej .u64 (IntKind.wrap .u64 k) 31)))))) J (Bf J J Wv) ?_
 refine Ad (.int .u32 (Mg .u32 (Qo .u32 a (Ej .u64 (IntKind.wrap .u64 k) 31)) (O9 .u32 a (IntKind.wrap .u64 (32 - (Ej .u64 (IntKind.wrap .u64 k) 31))))))<|O<|rt
theorem V2 (v a b c):CP Tryz.prog 157 [.int .u32 v,.int .i64 a,.int .i64 b,.int .i64 c] (Mr v a b c) (.int .u32):=by
 refine ci 23 0 func157 (Mr.eq_1 _ _ _ _) fun h0 ids hI hF=>Y<|Ad (.int .u32 0)<|O<|Y<|Aa 3 [] [(11,.I (wi (0 - a))),(9,.int .u32 v)]<|oc ((Es v (wi (0 - a))) _) fun r _=>Aa 3 [] [(15,.I (wi (0 - b))),(13,.int .u32 v)]<|oc ((Es v (wi (0 - b))) _) fun r1 _=>Ax (.int .u32 (C2 .u32 r r1)) J (Bf J J Kx)<|Aa 3 [] [(20,.I (wi (0 - c))),(18,.int .u32 v)]<|oc ((Es v (wi (0 - c))) _) fun r2 _=>Ax (.int .u32 (C2 .u32 (C2 .u32 r r1) r2)) J (Bf J J Kx)<|Ad (.int .u32 (C2 .u32 (C2 .u32 r r1) r2))<|O<|rt
theorem Ot (b:List Int)(s:(Vector Int 8))(h0:Ab)(o0:Nat)(g:Nat)(hI0:Ids h0 [o0] 1):Fl b s≠.bad→Bm Tryz.prog 133 [(.ptr o0 g 0 0),(.sl 1 (List.map (rI .u8) b))] (hp h0 [o0] [Aq g 8 [((rV (rI .u32)) s)]]) (Ed (fun a_ v h'=>v=(.tup [])∧h'=hp h0 [o0] [Aq g 8 [((rV (rI .u32)) a_)]]) h0 (Fl b s)):=by
 refine Ef (n:=144) 2 func133 J (by decide) J J hI0 J fun ids he hI=>?_
 clear hI0
 obtain rfl:ix ids 0=o0:=he 0 rfl
 clear he
 refine Ep (Ah (Fl.eq_1 _ _) ?_)
 refine Ar ?_
 refine Y<|Ee (j:=1) (row:=((rV (rI .u32)) (B0 64 0))) hI J J J J L8 (Hf (n:=64) (e:=(rI .u32)) (E:=(fun x:Int=>(AV.int .u32 x))) (fun _=>J) _).symm ((Ct (fun x=>Bo x) J) _) fun g1=>O<|Ar ?_
 refine Ac<|Y<|Ap (.I 0)<|O<|Ao<|B6 [0,1,4,14] ?_
 refine De (P:=Tryz.prog) (List.range 16) (fun j _=>fun o=>Ij b j o) (((fun o=>(loop (C7 fun x1 o1=>Fg x1 o1) (16,o)).bind (fun o2=>Gn s o2))):(Vector Int 64)→R (Vector Int 8)) (fun j=>fun o=>fun fr h=>fr=Ag [(0,.q ids 0 g),(1,.sl 1 (List.map (rI .u8) b)),(4,.q ids 1 g1),(14,.I j)]∧h=hp h0 ids [Aq g 8 [(rV (rI .u32)) s],Aq g1 64 [(rV (rI .u32)) o],none]) (B0 64 0) ?_ ?_ ?_
 ·exact⟨J,J⟩
 ·rintro j a ha W hW o fr h ⟨rfl,rfl⟩
  refine Ah (m':=Ij b j o) J (Ah (Ij.eq_1 _ _ _) ?_)
  refine Y<|Aw (.B (decide ((j:Int)<16)))<|O<|Ac<|Bx J (by have:=(Cb ha).1; omega)<|Aj<|Ac<|Ao<|Y<|Aa 2 [] [(5,.I j)]<|O<|Ai<|Aa 4 [] [(20,.I (wi (4 * (j:Int)))),(18,.sl 1 (List.map (rI .u8) b)),(17,.I j)]<|B3 fun hs=>Ax (.sl 1 (List.map (rI .u8) (b.drop (Int.toNat (wi (4 * (j:Int))))))) J (B2 (Jf Df Eg J hs))<|Ny _ J J J J ((Agk (b.drop (Int.toNat (wi (4 * (j:Int)))))) _) (fun v _=>E2 (K:=1) (N:=2) func133 hI) fun r _=>Ax (.ptr (ix ids 1) g1 0 j) J (As (Dc L8 Bq J (Nat.lt_of_lt_of_le (Cb ha).1 (by decide))))<|B8 (U8 (e:=(rI .u32)) (E:=(fun x:Int=>(AV.int .u32 x))) (x:=r) (fun _=>J) hI J J J Bq J J (Nat.lt_of_lt_of_le (Cb ha).1 (by decide)) J J J)<|O ?_
  refine Ar ?_
  refine Ay<|Ai<|Aa 2 [] [(14,.I (wi ((j:Int)+1)))]<|O<|A3 (Gf (hW (Nl o j r) _ _ ⟨J,J⟩)) (.r2 (.r (.cons (F3 (Cb ha).1 (by decide)) .nil)))
 rintro o fr h ⟨rfl,rfl⟩
 refine Y<|Aw (.B (decide (((List.range 16).length:Int)<16)))<|O<|Ac<|Bw J (by simp)<|Bd J<|Ac<|Y<|Ad (.I 16)<|O<|Cu (fun o2=>Gn s o2) (fun o2=>fun fr h=>fr=Ag [(0,.q ids 0 g),(4,.q ids 1 g1)]∧h=hp h0 ids [Aq g 8 [(rV (rI .u32)) s],Aq g1 64 [(rV (rI .u32)) o2],none]) ?_ fun hJ=>?_
 ·rintro o2 fr h ⟨rfl,rfl⟩
  refine Ah (Gn.eq_1 _ _)<|Y<|Aa 3 [0] [(68,.A ((rV (rI .u32)) s))]<|Ee (j:=2) (row:=((rV (rI .u32)) (B0 8 0))) hI J J J J E6 (Hf (n:=8) (e:=(rI .u32)) (E:=(fun x:Int=>(AV.int .u32 x))) (fun _=>J) _).symm ((Ct (fun x=>Bo x) J) _) fun g2=>B8 (D5 (v:=(.A ((rV (rI .u32)) s))) hI J J J E6 J J J (((Ct (fun x=>Bo x) J) _).1) J)<|O<|Ar ?_
  refine Ac<|Y<|Ap (.I 0)<|O<|Ao<|B6 [0,4,9,69] ?_
  refine De (P:=Tryz.prog) (List.range 64) (fun j1 _=>fun o3=>If o2 j1 o3) (((fun o3=>(eachS (fun j2 _=>fun o4=>Ie o3 j2 o4) 0 (List.range 8) s).bind ((fun o4=>.ok o4)))):(Vector Int 8)→R (Vector Int 8)) (fun j1=>fun o3=>fun fr h=>fr=Ag [(0,.q ids 0 g),(4,.q ids 1 g1),(9,.q ids 2 g2),(69,.I j1)]∧h=hp h0 ids [Aq g 8 [(rV (rI .u32)) s],Aq g1 64 [(rV (rI .u32)) o2],Aq g2 8 [(rV (rI .u32)) o3]]) s ?_ ?_ ?_
  ·exact⟨J,J⟩
  ·rintro j1 a1 ha1 W hW2 o3 fr h ⟨rfl,rfl⟩
   refine Ah (m':=If o2 j1 o3) J (Ah (If.eq_1 _ _ _) ?_)
   refine Y<|Aw (.B (decide ((j1:Int)<64)))<|O<|Ac<|Bx J (by have:=(Cb ha1).1; omega)<|Aj<|Ac<|Ao<|Y<|Aa 2 [] [(10,.I j1)]<|O<|Ac<|By [0,1,0,4,12,31,0,64,0,256,0,1024,0,4096,15360,32512,65472,131071,0,262144,786432,2097151,0,4194304,12582912,33554431,67108863] [pR 0,pR 1,pR 2,pR 3,pR 6,pR 7,pR 8,pR 9,pR 10,pR 11,pR 12,pR 13,pR 14,pR 15,pR 16,pR 18,pR 19,pR 20,pR 22,pR 23,pR 24,pE 4,pR 5,pR 17,pR 21,pR 25,pR 26] Dn<|A0 (.ptr (ix ids 2) g2 0 7) J J (As (Dc (i:=7) E6 Bq J (by decide)))<|A0 (.int .u32 (A2 o3 7 0)) J J (Bg (A6 hI J J J Bq (Fh (e:=(rI .u32)) (E:=(fun x:Int=>(AV.int .u32 x))) (fun _=>J) (by decide) 0)))<|A0 (.ptr (ix ids 2) g2 0 4) J J (As (Dc (i:=4) E6 Bq J (by decide)))<|A0 (.int .u32 (A2 o3 4 0)) J J (Bg (A6 hI J J J Bq (Fh (e:=(rI .u32)) (E:=(fun x:Int=>(AV.int .u32 x))) (fun _=>J) (by decide) 0)))<|A0 (.ptr (ix ids 2) g2 0 6) J J (As (Dc (i:=6) E6 Bq J (by decide)))<|A0 (.int .u32 (A2 o3 6 0)) J J (Bg (A6 hI J J J Bq (Fh (e:=(rI .u32)) (E:=(fun x:Int=>(AV.int .u32 x))) (fun _=>J) (by decide) 0))) ?_
   refine A0 (.ptr (ix ids 2) g2 0 4) J J (As (Dc (i:=4) E6 Bq J (by decide)))<|A0 (.int .u32 (A2 o3 4 0)) J J (Bg (A6 hI J J J Bq (Fh (e:=(rI .u32)) (E:=(fun x:Int=>(AV.int .u32 x))) (fun _=>J) (by decide) 0)))<|A0 (.ptr (ix ids 2) g2 0 5) J J (As (Dc (i:=5) E6 Bq J (by decide)))<|A0 (.int .u32 (A2 o3 5 0)) J J (Bg (A6 hI J J J Bq (Fh (e:=(rI .u32)) (E:=(fun x:Int=>(AV.int .u32 x))) (fun _=>J) (by decide) 0)))<|A0 (.ptr (ix ids 2) g2 0 6) J J (As (Dc (i:=6) E6 Bq J (by decide)))<|A0 (.int .u32 (A2 o3 6 0)) J J (Bg (A6 hI J J J Bq (Fh (e:=(rI .u32)) (E:=(fun x:Int=>(AV.int .u32 x))) (fun _=>J) (by decide) 0)))<|A0 (.int .u32 (C2 .u32 (A2 o3 5 0) (A2 o3 6 0))) J J (Bf J J Kx)<|A0 (.int .u32 (Ej .u32 (A2 o3 4 0) (C2 .u32 (A2 o3 5 0) (A2 o3 6 0)))) J J (Bf J J S7)<|A0 (.int .u32 (C2 .u32 (A2 o3 6 0) (Ej .u32 (A2 o3 4 0) (C2 .u32 (A2 o3 5 0) (A2 o3 6 0))))) J J (Bf J J Kx)<|At [] [(90,.I j1)]<|A0 (.cp ((rV (rI .u32)) Qq) j1) J J (As (Akb J L8 Bq J (Cb ha1).1))<|A0 (.int .u32 (A2 Qq j1 0)) J J (Bg (U4 Bq (Fh (e:=(rI .u32)) (E:=(fun x:Int=>(AV.int .u32 x))) (fun _=>J) (Cb ha1).1 0)))<|At [] [(94,.I j1)]<|A0 (.ptr (ix ids 1) g1 0 j1) J J (As (Dc L8 Bq J (Cb ha1).1))<|A0 (.int .u32 (A2 o2 j1 0)) J J (Bg (A6 hI J J J Bq (Fh (e:=(rI .u32)) (E:=(fun x:Int=>(AV.int .u32 x))) (fun _=>J) (Cb ha1).1 0)))<|Nr _ J J J J J ((V2 (A2 o3 4 0) 6 11 25) _) (fun v _ _ _=>E2 (K:=1) (N:=2) func133 hI) (Af J (Bg (A6 hI J J J Bq (Fh (e:=(rI .u32)) (E:=(fun x:Int=>(AV.int .u32 x))) (fun _=>J) (Cb ha1).1 0))) (Af J (As (Dc L8 Bq J (Cb ha1).1)) (Af J Ba (Af J (Bg (U4 Bq (Fh (e:=(rI .u32)) (E:=(fun x:Int=>(AV.int .u32 x))) (fun _=>J) (Cb ha1).1 0))) (Af J (As (Akb J L8 Bq J (Cb ha1).1)) (Af J Ba (Af J (Bf J J Kx) (Af J (Bf J J S7) (Af J (Bf J J Kx) (Af J (Bg (A6 hI J J J Bq (Fh (e:=(rI .u32)) (E:=(fun x:Int=>(AV.int .u32 x))) (fun _=>J) (by decide) 0))) (Af J (As (Dc (i:=6) E6 Bq J (by decide))) (Af J (Bg (A6 hI J J J Bq (Fh (e:=(rI .u32)) (E:=(fun x:Int=>(AV.int .u32 x))) (fun _=>J) (by decide) 0))) (Af J (As (Dc (i:=5) E6 Bq J (by decide))) (Af J (Bg (A6 hI J J J Bq (Fh (e:=(rI .u32)) (E:=(fun x:Int=>(AV.int .u32 x))) (fun _=>J) (by decide) 0))) (Af J (As (Dc (i:=4) E6 Bq J (by decide))) (Af J (Bg (A6 hI J J J Bq (Fh (e:=(rI .u32)) (E:=(fun x:Int=>(AV.int .u32 x))) (fun _=>J) (by decide) 0))) (Af J (As (Dc (i:=6) E6 Bq J (by decide))) (Hw J (Af J (Bg (A6 hI J J J Bq (Fh (e:=(rI .u32)) (E:=(fun x:Int=>(AV.int .u32 x))) (fun _=>J) (by decide) 0))) (Af J (As (Dc (i:=7) E6 Bq J (by decide))) C3)))))))))))))))))))) fun r5 _=>At [] [(77,.int .u32 (wU ((A2 o3 7 0)+r5))),(89,.int .u32 (wU ((wU ((A2 o3 7 0)+r5))+(C2 .u32 (A2 o3 6 0) (Ej .u32 (A2 o3 4 0) (C2 .u32 (A2 o3 5 0) (A2 o3 6 0))))))),(93,.int .u32 (wU ((wU ((wU ((A2 o3 7 0)+r5))+(C2 .u32 (A2 o3 6 0) (Ej .u32 (A2 o3 4 0) (C2 .u32 (A2 o3 5 0) (A2 o3 6 0))))))+(A2 Qq j1 0)))),(97,.int .u32 (wU ((wU ((wU ((wU ((A2 o3 7 0)+r5))+(C2 .u32 (A2 o3 6 0) (Ej .u32 (A2 o3 4 0) (C2 .u32 (A2 o3 5 0) (A2 o3 6 0))))))+(A2 Qq j1 0)))+(A2 o2 j1 0)))),(11,.int .u32 (wU ((wU ((wU ((wU ((A2 o3 7 0)+r5))+(C2 .u32 (A2 o3 6 0) (Ej .u32 (A2 o3 4 0) (C2 .u32 (A2 o3 5 0) (A2 o3 6 0))))))+(A2 Qq j1 0)))+(A2 o2 j1 0))))]<|Be<|Ac<|By [0,1,3,0,8,0,32,120,0,256,0,1024,0,4096,15360,32512,65528,131071,262143] [pR 0,pR 1,pR 3,pR 4,pR 5,pR 6,pR 7,pR 8,pR 9,pR 10,pR 11,pR 12,pR 13,pR 14,pR 15,pR 16,pE 2,pR 17,pR 18] Dn<|A0 (.q ids 2 g2) J J (As (Dc (i:=0) E6 Bq J (by decide))) ?_
   refine A0 (.int .u32 (A2 o3 0 0)) J J (Bg (A6 hI J J J Bq (Fh (e:=(rI .u32)) (E:=(fun x:Int=>(AV.int .u32 x))) (fun _=>J) (by decide) 0)))<|A0 (.q ids 2 g2) J J (As (Dc (i:=0) E6 Bq J (by decide)))<|A0 (.int .u32 (A2 o3 0 0)) J J (Bg (A6 hI J J J Bq (Fh (e:=(rI .u32)) (E:=(fun x:Int=>(AV.int .u32 x))) (fun _=>J) (by decide) 0)))<|A0 (.ptr (ix ids 2) g2 0 1) J J (As (Dc (i:=1) E6 Bq J (by decide)))<|A0 (.int .u32 (A2 o3 1 0)) J J (Bg (A6 hI J J J Bq (Fh (e:=(rI .u32)) (E:=(fun x:Int=>(AV.int .u32 x))) (fun _=>J) (by decide) 0)))<|A0 (.int .u32 (Ej .u32 (A2 o3 0 0) (A2 o3 1 0))) J J (Bf J J S7)<|A0 (.ptr (ix ids 2) g2 0 2) J J (As (Dc (i:=2) E6 Bq J (by decide)))<|A0 (.int .u32 (A2 o3 2 0)) J J (Bg (A6 hI J J J Bq (Fh (e:=(rI .u32)) (E:=(fun x:Int=>(AV.int .u32 x))) (fun _=>J) (by decide) 0)))<|A0 (.q ids 2 g2) J J (As (Dc (i:=0) E6 Bq J (by decide)))<|A0 (.int .u32 (A2 o3 0 0)) J J (Bg (A6 hI J J J Bq (Fh (e:=(rI .u32)) (E:=(fun x:Int=>(AV.int .u32 x))) (fun _=>J) (by decide) 0)))<|A0 (.ptr (ix ids 2) g2 0 1) J J (As (Dc (i:=1) E6 Bq J (by decide)))<|A0 (.int .u32 (A2 o3 1 0)) J J (Bg (A6 hI J J J Bq (Fh (e:=(rI .u32)) (E:=(fun x:Int=>(AV.int .u32 x))) (fun _=>J) (by decide) 0)))<|A0 (.int .u32 (Mg .u32 (A2 o3 0 0) (A2 o3 1 0))) J J (Bf J J Wv)<|A0 (.int .u32 (Ej .u32 (A2 o3 2 0) (Mg .u32 (A2 o3 0 0) (A2 o3 1 0)))) J J (Bf J J S7)<|A0 (.int .u32 (Mg .u32 (Ej .u32 (A2 o3 0 0) (A2 o3 1 0)) (Ej .u32 (A2 o3 2 0) (Mg .u32 (A2 o3 0 0) (A2 o3 1 0))))) J J (Bf J J Wv)<|Nr _ J J J J J ((V2 (A2 o3 0 0) 2 13 22) _) (fun v _ _ _=>E2 (K:=1) (N:=2) func133 hI) (Af J (Bf J J Wv) (Af J (Bf J J S7) (Af J (Bf J J Wv) (Af J (Bg (A6 hI J J J Bq (Fh (e:=(rI .u32)) (E:=(fun x:Int=>(AV.int .u32 x))) (fun _=>J) (by decide) 0))) (Af J (As (Dc (i:=1) E6 Bq J (by decide))) (Af J (Bg (A6 hI J J J Bq (Fh (e:=(rI .u32)) (E:=(fun x:Int=>(AV.int .u32 x))) (fun _=>J) (by decide) 0))) (Af J (As (Dc (i:=0) E6 Bq J (by decide))) (Af J (Bg (A6 hI J J J Bq (Fh (e:=(rI .u32)) (E:=(fun x:Int=>(AV.int .u32 x))) (fun _=>J) (by decide) 0))) (Af J (As (Dc (i:=2) E6 Bq J (by decide))) (Af J (Bf J J S7) (Af J (Bg (A6 hI J J J Bq (Fh (e:=(rI .u32)) (E:=(fun x:Int=>(AV.int .u32 x))) (fun _=>J) (by decide) 0))) (Af J (As (Dc (i:=1) E6 Bq J (by decide))) (Af J (Bg (A6 hI J J J Bq (Fh (e:=(rI .u32)) (E:=(fun x:Int=>(AV.int .u32 x))) (fun _=>J) (by decide) 0))) (Af J (As (Dc (i:=0) E6 Bq J (by decide))) (Hw J C3))))))))))))))) fun r6 _=>At [] [(115,.int .u32 (wU (r6+(Mg .u32 (Ej .u32 (A2 o3 0 0) (A2 o3 1 0)) (Ej .u32 (A2 o3 2 0) (Mg .u32 (A2 o3 0 0) (A2 o3 1 0))))))),(12,.int .u32 (wU (r6+(Mg .u32 (Ej .u32 (A2 o3 0 0) (A2 o3 1 0)) (Ej .u32 (A2 o3 2 0) (Mg .u32 (A2 o3 0 0) (A2 o3 1 0)))))))]<|Be<|Ac<|By [0,0,3] [pR 0,pR 1,pE 2] Dn<|A0 (.refc (ix ids 2) g2 0 1 7 7) J J (B2 (Ahh (a:=1) (b:=8) hI J J E6 Bq J J J)) ?_
   refine A0 (.refc (ix ids 2) g2 0 0 7 8) J J (B2 (Ahh (a:=0) (b:=7) hI J J E6 Bq J J J)) ?_
   refine Cz fun hl=>Fj J J (fun _ _=>J) (fun K hK=>Ahn (e:=(rI .u32)) (E1:=(fun x:Int=>(AV.int .u32 x))) (v:=o3) (L:=((o3.toList.drop 0).take 7)) (fun _=>J) hI J J J J (Ao9 (E1:=(fun x:Int=>(AV.int .u32 x))) (v:=o3) (fun _=>J) J (hI.at J J) J) Awu Bq J J hl (hK _ _ Dw ?_))
   clear hK K
   refine Be<|Ar ?_
   refine Y<|Ax (.ptr (ix ids 2) g2 0 4) J (As (Dc (i:=4) E6 Bq J (by decide)))<|Ax (.int .u32 (A2 (R1 o3 1 ((o3.toList.drop 0).take 7)) 4 0)) J (Bg (A6 hI J J J Bq (Fh (e:=(rI .u32)) (E:=(fun x:Int=>(AV.int .u32 x))) (fun _=>J) (by decide) 0)))<|Aa 2 [] [(122,.int .u32 (wU ((A2 (R1 o3 1 ((o3.toList.drop 0).take 7)) 4 0)+(wU ((wU ((wU ((wU ((A2 o3 7 0)+r5))+(C2 .u32 (A2 o3 6 0) (Ej .u32 (A2 o3 4 0) (C2 .u32 (A2 o3 5 0) (A2 o3 6 0))))))+(A2 Qq j1 0)))+(A2 o2 j1 0))))))]<|Ax (.ptr (ix ids 2) g2 0 4) J (As (Dc (i:=4) E6 Bq J (by decide)))<|B8 (U8 (e:=(rI .u32)) (E:=(fun x:Int=>(AV.int .u32 x))) (x:=(wU ((A2 (R1 o3 1 ((o3.toList.drop 0).take 7)) 4 0)+(wU ((wU ((wU ((wU ((A2 o3 7 0)+r5))+(C2 .u32 (A2 o3 6 0) (Ej .u32 (A2 o3 4 0) (C2 .u32 (A2 o3 5 0) (A2 o3 6 0))))))+(A2 Qq j1 0)))+(A2 o2 j1 0)))))) (fun _=>J) hI J J J Bq J J (by decide) J J J)<|O<|Ar ?_
   refine Ai<|Aa 3 [] [(126,.int .u32 (wU ((wU ((wU ((wU ((wU ((A2 o3 7 0)+r5))+(C2 .u32 (A2 o3 6 0) (Ej .u32 (A2 o3 4 0) (C2 .u32 (A2 o3 5 0) (A2 o3 6 0))))))+(A2 Qq j1 0)))+(A2 o2 j1 0)))+(wU (r6+(Mg .u32 (Ej .u32 (A2 o3 0 0) (A2 o3 1 0)) (Ej .u32 (A2 o3 2 0) (Mg .u32 (A2 o3 0 0) (A2 o3 1 0)))))))))]<|Ax (.q ids 2 g2) J (As (Dc (i:=0) E6 Bq J (by decide)))<|B8 (U8 (e:=(rI .u32)) (E:=(fun x:Int=>(AV.int .u32 x))) (x:=(wU ((wU ((wU ((wU ((wU ((A2 o3 7 0)+r5))+(C2 .u32 (A2 o3 6 0) (Ej .u32 (A2 o3 4 0) (C2 .u32 (A2 o3 5 0) (A2 o3 6 0))))))+(A2 Qq j1 0)))+(A2 o2 j1 0)))+(wU (r6+(Mg .u32 (Ej .u32 (A2 o3 0 0) (A2 o3 1 0)) (Ej .u32 (A2 o3 2 0) (Mg .u32 (A2 o3 0 0) (A2 o3 1 0))))))))) (fun _=>J) hI J J J Bq J J (by decide) J J J)<|O<|Ar ?_
   refine Ay<|Ai<|Aa 2 [] [(69,.I (wi ((j1:Int)+1)))]<|O<|A3 (Gf (hW2 (Nl (Nl (R1 o3 1 ((o3.toList.drop 0).take 7)) 4 (wU ((A2 (R1 o3 1 ((o3.toList.drop 0).take 7)) 4 0)+(wU ((wU ((wU ((wU ((A2 o3 7 0)+r5))+(C2 .u32 (A2 o3 6 0) (Ej .u32 (A2 o3 4 0) (C2 .u32 (A2 o3 5 0) (A2 o3 6 0))))))+(A2 Qq j1 0)))+(A2 o2 j1 0)))))) 0 (wU ((wU ((wU ((wU ((wU ((A2 o3 7 0)+r5))+(C2 .u32 (A2 o3 6 0) (Ej .u32 (A2 o3 4 0) (C2 .u32 (A2 o3 5 0) (A2 o3 6 0))))))+(A2 Qq j1 0)))+(A2 o2 j1 0)))+(wU (r6+(Mg .u32 (Ej .u32 (A2 o3 0 0) (A2 o3 1 0)) (Ej .u32 (A2 o3 2 0) (Mg .u32 (A2 o3 0 0) (A2 o3 1 0))))))))) _ _ ⟨J,J⟩)) (.r2 (.r (.cons (F3 (Cb ha1).1 (by decide)) .nil)))
  rintro o3 fr h ⟨rfl,rfl⟩
  refine Y<|Aw (.B (decide (((List.range 64).length:Int)<64)))<|O<|Ac<|Bw J (by simp)<|Bd J<|Y<|Ap (.I 0)<|O<|Ao<|Cc 2<|B6 [0,9,129] ?_
  refine De (P:=Tryz.prog) (List.range 8) (fun j2 _=>fun o4=>Ie o3 j2 o4) (((fun o4=>.ok o4)):(Vector Int 8)→R (Vector Int 8)) (fun j2=>fun o4=>fun fr h=>fr=Ag [(0,.q ids 0 g),(9,.q ids 2 g2),(129,.I j2)]∧h=hp h0 ids [Aq g 8 [(rV (rI .u32)) o4],none,Aq g2 8 [(rV (rI .u32)) o3]]) s ?_ ?_ ?_
  ·exact⟨J,J⟩
  ·rintro j2 a2 ha2 W hW3 o4 fr h ⟨rfl,rfl⟩
   refine Ah (m':=Ie o3 j2 o4) J (Ah (Ie.eq_1 _ _ _) ?_)
   refine Y<|Aw (.B (decide ((j2:Int)<8)))<|O<|Ac<|Bx J (by have:=(Cb ha2).1; omega)<|Aj<|Ac<|Ao<|Y<|Aa 2 [] [(13,.I j2)]<|O<|By [0,0,1,7,15,0,32,96,255,1,1023,2047] [pR 0,pR 1,pR 2,pR 3,pR 4,pR 5,pR 6,pR 7,pR 8,pR 9,pR 10,pE 11] Dn<|At [] [(132,.q ids 0 g),(133,.I j2),(134,.q ids 0 g)]<|A0 (.ptr (ix ids 0) g 0 j2) J J (As (Dc E6 Bq J (Cb ha2).1))<|A0 (.int .u32 (A2 o4 j2 0)) J J (Bg (A6 hI J J J Bq (Fh (e:=(rI .u32)) (E:=(fun x:Int=>(AV.int .u32 x))) (fun _=>J) (Cb ha2).1 0)))<|At [] [(137,.I j2)]<|A0 (.ptr (ix ids 2) g2 0 j2) J J (As (Dc E6 Bq J (Cb ha2).1))<|A0 (.int .u32 (A2 o3 j2 0)) J J (Bg (A6 hI J J J Bq (Fh (e:=(rI .u32)) (E:=(fun x:Int=>(AV.int .u32 x))) (fun _=>J) (Cb ha2).1 0)))<|At [] [(140,.int .u32 (wU ((A2 o4 j2 0)+(A2 o3 j2 0)))),(141,.q ids 0 g)] ?_
   refine A0 (.ptr (ix ids 0) g 0 j2) J J (As (Dc E6 Bq J (Cb ha2).1))<|Kq J (fun _ _=>J) (fun K hK=>Fe (U8 (e:=(rI .u32)) (E:=(fun x:Int=>(AV.int .u32 x))) (x:=(wU ((A2 o4 j2 0)+(A2 o3 j2 0)))) (fun _=>J) hI J J J Bq J J (Cb ha2).1 J J J) (hK _ _ Dw ?_))
   clear hK K
   refine Be<|Ar ?_
   refine Ay<|Ai<|Aa 2 [] [(129,.I (wi ((j2:Int)+1)))]<|O<|A3 (Gf (hW3 (Nl o4 j2 (wU ((A2 o4 j2 0)+(A2 o3 j2 0)))) _ _ ⟨J,J⟩)) (.r2 (.cons (F3 (Cb ha2).1 (by decide)) .nil))
  rintro o4 fr h ⟨rfl,rfl⟩
  refine Y<|Aw (.B (decide (((List.range 8).length:Int)<8)))<|O<|Ac<|Bw J (by simp)<|Bd J<|Ac1 (K:=1) (N:=2) (a:=o4) (vs:=[]) [Aq g 8 [(rV (rI .u32)) o4]] func133 hI J J J (.keep (.keep (.drop .nil))) (.same _) ⟨J,J⟩
 refine Ao<|B6 [0,4,6] ?_
 refine Gg (P:=Tryz.prog) (C7 fun x1 o1=>Fg x1 o1) ((fun o2=>Gn s o2):(Vector Int 64)→R (Vector Int 8)) (C7 fun x1 o1=>fun fr h=>fr=Ag [(0,.q ids 0 g),(4,.q ids 1 g1),(6,.I x1)]∧h=hp h0 ids [Aq g 8 [(rV (rI .u32)) s],Aq g1 64 [(rV (rI .u32)) o1],none]) (16,o) ?_ ?_
 ·exact⟨J,J⟩
 rintro vW1 hW1 ⟨x1,o1⟩ fr h ⟨rfl,rfl⟩
 refine Ah (m':=Fg x1 o1) J (Ah (Fg.eq_1 _ _) ?_)
 refine Ac<|Y<|Aa 2 [] [(26,.B (decide (x1<64)))]<|O<|C1 J (fun hc=>?_) (fun hc=>?_)
 ·refine Aj<|Ac<|Ao<|Ac<|By [0,1,3,7,0,16,48,112,15,511] [pR 0,pR 1,pR 2,pR 3,pR 4,pR 5,pR 6,pR 7,pR 8,pR 9] Dn<|At [] [(29,.I x1),(30,.I (wi (x1 - 15)))]<|Cz fun hi=>A0 (.ptr (ix ids 1) g1 0 (Int.toNat (wi (x1 - 15)))) J J (As (H6 L8 Bq J hi))<|A0 (.int .u32 (A2 o1 (Int.toNat (wi (x1 - 15))) 0)) J J (Bg (A6 hI J J J Bq (Fh (e:=(rI .u32)) (E:=(fun x:Int=>(AV.int .u32 x))) (fun _=>J) (I2 hi) 0)))<|At [] [(33,.I x1),(34,.I (wi (x1 - 2)))]<|Cz fun hi1=>A0 (.ptr (ix ids 1) g1 0 (Int.toNat (wi (x1 - 2)))) J J (As (H6 L8 Bq J hi1))<|A0 (.int .u32 (A2 o1 (Int.toNat (wi (x1 - 2))) 0)) J J (Bg (A6 hI J J J Bq (Fh (e:=(rI .u32)) (E:=(fun x:Int=>(AV.int .u32 x))) (fun _=>J) (I2 hi1) 0)))<|At [] [(7,.int .u32 (A2 o1 (Int.toNat (wi (x1 - 15))) 0)),(8,.int .u32 (A2 o1 (Int.toNat (wi (x1 - 2))) 0))]<|Be<|By [0,0,2,6,14,0,32,0,224,480,0,1024,4064,8190,0,16384,49152,114688,262142,0,524768,0,3670496,7864800,0,16777216,66585056,134217726,268435455,536870911] [pR 0,pR 1,pR 2,pR 3,pR 4,pR 5,pR 7,pR 10,pR 11,pR 14,pR 15,pR 16,pR 17,pR 19,pR 21,pR 24,pR 25,pE 6,pE 8,pR 9,pR 12,pR 13,pR 18,pE 20,pE 22,pR 23,pR 26,pR 27,pR 28,pE 29] Dn<|At [] [(37,.I x1),(38,.I x1),(39,.I (wi (x1 - 16)))]<|Cz fun hi2=>A0 (.ptr (ix ids 1) g1 0 (Int.toNat (wi (x1 - 16)))) J J (As (H6 L8 Bq J hi2))<|A0 (.int .u32 (A2 o1 (Int.toNat (wi (x1 - 16))) 0)) J J (Bg (A6 hI J J J Bq (Fh (e:=(rI .u32)) (E:=(fun x:Int=>(AV.int .u32 x))) (fun _=>J) (I2 hi2) 0)))<|At [] [(42,.int .u32 (A2 o1 (Int.toNat (wi (x1 - 15))) 0)),(44,.int .u32 (A2 o1 (Int.toNat (wi (x1 - 15))) 0)),(47,.int .u32 (A2 o1 (Int.toNat (wi (x1 - 15))) 0))] ?_
  refine A0 (.int .u32 (Int.fdiv (A2 o1 (Int.toNat (wi (x1 - 15))) 0) 8)) J J (Bf J J (Kb (by decide) (by decide)))<|At [] [(51,.I x1),(52,.I (wi (x1 - 7)))]<|Cz fun hi3=>A0 (.ptr (ix ids 1) g1 0 (Int.toNat (wi (x1 - 7)))) J J (As (H6 L8 Bq J hi3))<|A0 (.int .u32 (A2 o1 (Int.toNat (wi (x1 - 7))) 0)) J J (Bg (A6 hI J J J Bq (Fh (e:=(rI .u32)) (E:=(fun x:Int=>(AV.int .u32 x))) (fun _=>J) (I2 hi3) 0)))<|At [] [(56,.int .u32 (A2 o1 (Int.toNat (wi (x1 - 2))) 0)),(58,.int .u32 (A2 o1 (Int.toNat (wi (x1 - 2))) 0)),(61,.int .u32 (A2 o1 (Int.toNat (wi (x1 - 2))) 0))]<|A0 (.int .u32 (Int.fdiv (A2 o1 (Int.toNat (wi (x1 - 2))) 0) 1024)) J J (Bf J J (Kb (by decide) (by decide)))<|Nr _ J J J J J ((Es (A2 o1 (Int.toNat (wi (x1 - 15))) 0) (-7)) _) (fun v _ _ _=>E2 (K:=1) (N:=2) func133 hI) (Af J (Bf J J (Kb (by decide) (by decide))) (Af J Ba (Af J Ba (Af J Ba (Af J (Bg (A6 hI J J J Bq (Fh (e:=(rI .u32)) (E:=(fun x:Int=>(AV.int .u32 x))) (fun _=>J) (I2 hi3) 0))) (Af J (As (H6 L8 Bq J hi3)) (Af J (Bf J J J) (Af J Ba (Af J (Bf J J (Kb (by decide) (by decide))) (Af J Ba (Af J Ba (Gu J (Af J (Bg (A6 hI J J J Bq (Fh (e:=(rI .u32)) (E:=(fun x:Int=>(AV.int .u32 x))) (fun _=>J) (I2 hi2) 0))) (Af J (As (H6 L8 Bq J hi2)) (Af J (Bf J J J) (Af J Ba (Af J Ba C3))))))))))))))))) fun r1 _=>Nr _ J J J J J ((Es (A2 o1 (Int.toNat (wi (x1 - 15))) 0) (-18)) _) (fun v _ _ _=>E2 (K:=1) (N:=2) func133 hI) (Af J (Bf J J (Kb (by decide) (by decide))) (Af J Ba (Af J Ba (Af J Ba (Af J (Bg (A6 hI J J J Bq (Fh (e:=(rI .u32)) (E:=(fun x:Int=>(AV.int .u32 x))) (fun _=>J) (I2 hi3) 0))) (Af J (As (H6 L8 Bq J hi3)) (Af J (Bf J J J) (Af J Ba (Af J (Bf J J (Kb (by decide) (by decide))) (Af J Ba (Hw J (Af J (Bg (A6 hI J J J Bq (Fh (e:=(rI .u32)) (E:=(fun x:Int=>(AV.int .u32 x))) (fun _=>J) (I2 hi2) 0))) (Af J (As (H6 L8 Bq J hi2)) (Af J (Bf J J J) (Af J Ba (Af J Ba C3)))))))))))))))) fun r2 _=>A0 (.int .u32 (C2 .u32 r1 r2)) J J (Bf J J Kx)<|A0 (.int .u32 (C2 .u32 (C2 .u32 r1 r2) (Int.fdiv (A2 o1 (Int.toNat (wi (x1 - 15))) 0) 8))) J J (Bf J J Kx)<|At [] [(50,.int .u32 (wU ((A2 o1 (Int.toNat (wi (x1 - 16))) 0)+(C2 .u32 (C2 .u32 r1 r2) (Int.fdiv (A2 o1 (Int.toNat (wi (x1 - 15))) 0) 8))))),(55,.int .u32 (wU ((wU ((A2 o1 (Int.toNat (wi (x1 - 16))) 0)+(C2 .u32 (C2 .u32 r1 r2) (Int.fdiv (A2 o1 (Int.toNat (wi (x1 - 15))) 0) 8))))+(A2 o1 (Int.toNat (wi (x1 - 7))) 0))))]<|Nr _ J J J J J ((Es (A2 o1 (Int.toNat (wi (x1 - 2))) 0) (-17)) _) (fun v _ _ _=>E2 (K:=1) (N:=2) func133 hI) (Af J (Bf J J J) (Af J (Bf J J J) (Af J (Bf J J Kx) (Af J (Bf J J Kx) (Af J (Bf J J (Kb (by decide) (by decide))) (Af J Ba (Af J Ba (Gu J (Af J (Bg (A6 hI J J J Bq (Fh (e:=(rI .u32)) (E:=(fun x:Int=>(AV.int .u32 x))) (fun _=>J) (I2 hi3) 0))) (Af J (As (H6 L8 Bq J hi3)) (Af J (Bf J J J) (Af J Ba (Af J (Bf J J (Kb (by decide) (by decide))) (Af J Ba (Hw J (Af J (Bg (A6 hI J J J Bq (Fh (e:=(rI .u32)) (E:=(fun x:Int=>(AV.int .u32 x))) (fun _=>J) (I2 hi2) 0))) (Af J (As (H6 L8 Bq J hi2)) (Af J (Bf J J J) (Af J Ba (Af J Ba C3)))))))))))))))))))) fun r3 _=>Nr _ J J J J J ((Es (A2 o1 (Int.toNat (wi (x1 - 2))) 0) (-19)) _) (fun v _ _ _=>E2 (K:=1) (N:=2) func133 hI) (Af J (Bf J J J) (Af J (Bf J J J) (Af J (Bf J J Kx) (Af J (Bf J J Kx) (Af J (Bf J J (Kb (by decide) (by decide))) (Af J Ba (Hw J (Af J (Bg (A6 hI J J J Bq (Fh (e:=(rI .u32)) (E:=(fun x:Int=>(AV.int .u32 x))) (fun _=>J) (I2 hi3) 0))) (Af J (As (H6 L8 Bq J hi3)) (Af J (Bf J J J) (Af J Ba (Af J (Bf J J (Kb (by decide) (by decide))) (Af J Ba (Hw J (Af J (Bg (A6 hI J J J Bq (Fh (e:=(rI .u32)) (E:=(fun x:Int=>(AV.int .u32 x))) (fun _=>J) (I2 hi2) 0))) (Af J (As (H6 L8 Bq J hi2)) (Af J (Bf J J J) (Af J Ba (Af J Ba C3))))))))))))))))))) fun r4 _=>A0 (.int .u32 (C2 .u32 r3 r4)) J J (Bf J J Kx)<|A0 (.int .u32 (C2 .u32 (C2 .u32 r3 r4) (Int.fdiv (A2 o1 (Int.toNat (wi (x1 - 2))) 0) 1024))) J J (Bf J J Kx)<|At [] [(64,.int .u32 (wU ((wU ((wU ((A2 o1 (Int.toNat (wi (x1 - 16))) 0)+(C2 .u32 (C2 .u32 r1 r2) (Int.fdiv (A2 o1 (Int.toNat (wi (x1 - 15))) 0) 8))))+(A2 o1 (Int.toNat (wi (x1 - 7))) 0)))+(C2 .u32 (C2 .u32 r3 r4) (Int.fdiv (A2 o1 (Int.toNat (wi (x1 - 2))) 0) 1024)))))]<|Cz fun hi4=>A0 (.ptr (ix ids 1) g1 0 (Int.toNat x1)) J J (As (H6 L8 Bq J hi4))<|Kq J (fun _ _=>J) (fun K hK=>Fe (U8 (e:=(rI .u32)) (E:=(fun x:Int=>(AV.int .u32 x))) (x:=(wU ((wU ((wU ((A2 o1 (Int.toNat (wi (x1 - 16))) 0)+(C2 .u32 (C2 .u32 r1 r2) (Int.fdiv (A2 o1 (Int.toNat (wi (x1 - 15))) 0) 8))))+(A2 o1 (Int.toNat (wi (x1 - 7))) 0)))+(C2 .u32 (C2 .u32 r3 r4) (Int.fdiv (A2 o1 (Int.toNat (wi (x1 - 2))) 0) 1024))))) (fun _=>J) hI J J J Bq J J (I2 hi4) J J J) (hK _ _ Dw ?_))
  clear hK K
  refine Be<|Ar ?_
  refine Ay<|Ai<|Aa 3 [] [(6,.I (wi (x1+1)))]<|O<|A3 (Fa (hW1 ((wi (x1+1)),Nl o1 (Int.toNat x1) (wU ((wU ((wU ((A2 o1 (Int.toNat (wi (x1 - 16))) 0)+(C2 .u32 (C2 .u32 r1 r2) (Int.fdiv (A2 o1 (Int.toNat (wi (x1 - 15))) 0) 8))))+(A2 o1 (Int.toNat (wi (x1 - 7))) 0)))+(C2 .u32 (C2 .u32 r3 r4) (Int.fdiv (A2 o1 (Int.toNat (wi (x1 - 2))) 0) 1024))))) _ _ ⟨J,J⟩))
 refine Bd J<|Ec<|A3 (hJ o1 _ _ ⟨J,J⟩)
theorem Aaw (c:Nat)(cp:Nat)(n:Int)(s:(Vector Int 128))(h0:Ab)(o0:Nat)(g:Nat)(vHc:c+8≤128)(hI0:Ids h0 [o0] 1):Pl c cp n s≠.bad→Bm Tryz.prog 134 [(.refc o0 g 0 c 8 cp),(.int .u64 n)] (hp h0 [o0] [Aq g 128 [(rU s)]]) (Ed (fun a_ v h'=>v=(.tup [])∧h'=hp h0 [o0] [Aq g 128 [(rU a_)]]) h0 (Pl c cp n s)):=by
 refine Ef (n:=23) 0 func134 J (by decide) J J hI0 J fun ids he hI=>?_
 clear hI0
 obtain rfl:ix ids 0=o0:=he 0 rfl
 clear he
 refine Ep (Ah (Pl.eq_1 _ _ _ _) ?_)
 refine Y<|Ap (.refc (ix ids 0) g 0 c 8 cp)<|Ax (.I 8) J (Ca (Un Df))<|Ap (.I 0)<|O<|Ao<|B6 [0,1,6,7] ?_
 refine De (P:=Tryz.prog) (List.range 8) (fun j _=>fun o=>Qd c n j o) (((fun o=>.ok o)):(Vector Int 128)→R (Vector Int 128)) (fun j=>fun o=>fun fr h=>fr=Ag [(0,.refc (ix ids 0) g 0 c 8 cp),(1,.int .u64 n),(6,.I 8),(7,.I j)]∧h=hp h0 ids [Aq g 128 [rU o]]) s ?_ ?_ ?_
 ·exact⟨J,J⟩
 ·rintro j a ha W hW o fr h ⟨rfl,rfl⟩
  refine Ah (m':=Qd c n j o) J (Ah (Qd.eq_1 _ _ _ _) ?_)
  refine Y<|Aw (.B (decide ((j:Int)<8)))<|O<|Ac<|Bx J (by have:=(Cb ha).1; omega)<|Aj<|Ac<|Ao<|Y<|Aa 2 [] [(4,.I j)]<|O<|Ai<|Aa 2 [] [(11,.refc (ix ids 0) g 0 c 8 cp),(10,.refc (ix ids 0) g 0 c 8 cp)]<|Ax (.I 8) J (Ca (Un Df))<|Aa 6 [] [(18,.I (wi (8 * (j:Int)))),(16,.int .u64 n),(15,.I (wi (7 - (j:Int))))]<|B3 fun hz=>Ax (.int .u64 (O9 .u64 n (wi (8 * (j:Int))))) J (Bf J J (Z5 hz))<|Aw (.int .u8 (IntKind.wrap .u8 (O9 .u64 n (wi (8 * (j:Int))))))<|B3 fun hi=>?_
  refine Ax (.ptr (ix ids 0) g 0 (c+Int.toNat (wi (7 - (j:Int))))) J (As (Ajz Df Eg J hi))<|B8 (U8 (e:=(rI .u8)) (E:=(fun x:Int=>(AV.int .u8 x))) (x:=(IntKind.wrap .u8 (O9 .u64 n (wi (8 * (j:Int)))))) (fun _=>J) hI J J J Eg J J (As4 hi vHc) J J J)<|O<|Ar ?_
  refine Ay<|Ai<|Aa 2 [] [(7,.I (wi ((j:Int)+1)))]<|O<|A3 (Gf (hW (Nl o (c+Int.toNat (wi (7 - (j:Int)))) (IntKind.wrap .u8 (O9 .u64 n (wi (8 * (j:Int)))))) _ _ ⟨J,J⟩)) (.r2 (.r (.cons (F3 (Cb ha).1 (by decide)) .nil)))
 rintro o fr h ⟨rfl,rfl⟩
 refine Y<|Aw (.B (decide (((List.range 8).length:Int)<8)))<|O<|Ac<|Bw J (by simp)<|Bd J<|Ac1 (K:=1) (N:=0) (a:=o) (vs:=[]) [Aq g 128 [rU o]] func134 hI J J J (.keep .nil) (.same _) ⟨J,J⟩
theorem Xr (c:Nat)(cp:Nat)(n:Int)(s:(Vector Int 32))(h0:Ab)(o0:Nat)(g:Nat)(vHc:c+4≤32)(hI0:Ids h0 [o0] 1):M5 c cp n s≠.bad→Bm Tryz.prog 134 [(.refc o0 g 0 c 4 cp),(.int .u64 n)] (hp h0 [o0] [Aq g 32 [(rU s)]]) (Ed (fun a_ v h'=>v=(.tup [])∧h'=hp h0 [o0] [Aq g 32 [(rU a_)]]) h0 (M5 c cp n s)):=by
 refine Ef (n:=23) 0 func134 J (by decide) J J hI0 J fun ids he hI=>?_
 clear hI0
 obtain rfl:ix ids 0=o0:=he 0 rfl
 clear he
 refine Ep (Ah (M5.eq_1 _ _ _ _) ?_)
 refine Y<|Ap (.refc (ix ids 0) g 0 c 4 cp)<|Ax (.I 4) J (Ca (Un Df))<|Ap (.I 0)<|O<|Ao<|B6 [0,1,6,7] ?_
 refine De (P:=Tryz.prog) (List.range 4) (fun j _=>fun o=>N9 c n j o) (((fun o=>.ok o)):(Vector Int 32)→R (Vector Int 32)) (fun j=>fun o=>fun fr h=>fr=Ag [(0,.refc (ix ids 0) g 0 c 4 cp),(1,.int .u64 n),(6,.I 4),(7,.I j)]∧h=hp h0 ids [Aq g 32 [rU o]]) s ?_ ?_ ?_
 ·exact⟨J,J⟩
 ·rintro j a ha W hW o fr h ⟨rfl,rfl⟩
  refine Ah (m':=N9 c n j o) J (Ah (N9.eq_1 _ _ _ _) ?_)
  refine Y<|Aw (.B (decide ((j:Int)<4)))<|O<|Ac<|Bx J (by have:=(Cb ha).1; omega)<|Aj<|Ac<|Ao<|Y<|Aa 2 [] [(4,.I j)]<|O<|Ai<|Aa 2 [] [(11,.refc (ix ids 0) g 0 c 4 cp),(10,.refc (ix ids 0) g 0 c 4 cp)]<|Ax (.I 4) J (Ca (Un Df))<|Aa 6 [] [(18,.I (wi (8 * (j:Int)))),(16,.int .u64 n),(15,.I (wi (3 - (j:Int))))]<|B3 fun hz=>Ax (.int .u64 (O9 .u64 n (wi (8 * (j:Int))))) J (Bf J J (Z5 hz))<|Aw (.int .u8 (IntKind.wrap .u8 (O9 .u64 n (wi (8 * (j:Int))))))<|B3 fun hi=>?_
  refine Ax (.ptr (ix ids 0) g 0 (c+Int.toNat (wi (3 - (j:Int))))) J (As (Ajz Df Eg J hi))<|B8 (U8 (e:=(rI .u8)) (E:=(fun x:Int=>(AV.int .u8 x))) (x:=(IntKind.wrap .u8 (O9 .u64 n (wi (8 * (j:Int)))))) (fun _=>J) hI J J J Eg J J (As4 hi vHc) J J J)<|O<|Ar ?_
  refine Ay<|Ai<|Aa 2 [] [(7,.I (wi ((j:Int)+1)))]<|O<|A3 (Gf (hW (Nl o (c+Int.toNat (wi (3 - (j:Int)))) (IntKind.wrap .u8 (O9 .u64 n (wi (8 * (j:Int)))))) _ _ ⟨J,J⟩)) (.r2 (.r (.cons (F3 (Cb ha).1 (by decide)) .nil)))
 rintro o fr h ⟨rfl,rfl⟩
 refine Y<|Aw (.B (decide (((List.range 4).length:Int)<4)))<|O<|Ac<|Bw J (by simp)<|Bd J<|Ac1 (K:=1) (N:=0) (a:=o) (vs:=[]) [Aq g 32 [rU o]] func134 hI J J J (.keep .nil) (.same _) ⟨J,J⟩
theorem Aau (b):CP Tryz.prog 112 [.sl 1 (List.map (rI .u8) b)] (Dk b) (fun x=>(AV.agg (rU x))):=by
 refine ci 69 3 func112 (Dk.eq_1 _) fun h0 ids hI hF=>Y<|Ee (j:=0) (row:=(rU (B0 32 0))) hI J J J J Bj (Hf (n:=32) (e:=(rI .u8)) (E:=(fun x:Int=>(AV.int .u8 x))) (fun _=>J) _).symm ((Ct (fun x=>Bo x) J) _) fun g=>O<|Ar ?_
 refine Y<|Ax (.A ((rV (rI .u32)) Acu)) J (Bg (Awy (b:=1) (c:=0) J Awo J))<|Ee (j:=1) (row:=((rV (rI .u32)) (B0 8 0))) hI J J J J E6 (Hf (n:=8) (e:=(rI .u32)) (E:=(fun x:Int=>(AV.int .u32 x))) (fun _=>J) _).symm ((Ct (fun x=>Bo x) J) _) fun g1=>B8 (D5 (v:=(.A ((rV (rI .u32)) Acu))) hI J J J E6 J J J (((Ct (fun x=>Bo x) J) _).1) J)<|O<|Ar ?_
 refine Y<|Aa 2 [] [(4,.func (.func 133) [.q ids 1 g1] [])]<|O<|Y<|Aa 2 [] [(5,.sl 1 (List.map (rI .u8) b))]<|O<|Ac<|Cu (C7 fun rest1 o1=>Nt b rest1 o1) (C7 fun rest1 o1=>fun fr h=>fr=Ag [(0,.sl 1 (List.map (rI .u8) b)),(2,.q ids 0 g),(3,.q ids 1 g1),(4,.func (.func 133) [.q ids 1 g1] []),(5,.sl 1 (List.map (rI .u8) rest1))]∧h=hp h0 ids [Aq g 32 [rU (B0 32 0)],Aq g1 8 [(rV (rI .u32)) o1],none]) ?_ fun hJ2=>?_
 ·rintro⟨rest1,o1⟩ fr h ⟨rfl,rfl⟩
  refine Ah (Nt.eq_1 _ _ _)<|Y<|Asb (q:=128) (nn:=64) (e:=(rI .u8)) (E1:=(fun x:Int=>(AV.int .u8 x))) (y:=(0:Int)) (j:=2) (fun _=>J) hI J J J J Df Eg J J J J J J J J fun g2=>Ad (.refc (ix ids 2) g2 0 0 64 128)<|O<|Ar ?_
  refine Y<|Aa 2 [] [(23,.sl 1 (List.map (rI .u8) rest1)),(22,.refc (ix ids 2) g2 0 0 64 128)]<|B3 fun hl=>Asi (e:=(rI .u8)) (E1:=(fun x:Int=>(AV.int .u8 x))) (v:=(B0 128 (0:Int))) (L:=rest1) (fun _=>J) hI J J J J J (C9 J) Df Eg J J hl<|O<|Ar ?_
  refine Y<|Aa 2 [] [(26,.sl 1 (List.map (rI .u8) rest1)),(25,.refc (ix ids 2) g2 0 0 64 128)]<|Bl rest1<|B3 fun hi=>Ax (.ptr (ix ids 2) g2 0 (Int.toNat (rest1.length:Int))) J (As (Ao1 Df Eg J hi))<|B8 (U8 (e:=(rI .u8)) (E:=(fun x:Int=>(AV.int .u8 x))) (x:=128) (fun _=>J) hI J J J Eg J J (Nat.lt_of_lt_of_le (I2 hi) (by decide)) J J J)<|O<|Ar ?_
  refine Ac<|Y<|Ap (.sl 1 (List.map (rI .u8) rest1))<|Bl rest1<|Aw (.B (decide ((rest1.length:Int) > 55)))<|O<|C1 J (fun hc1=>?_) (fun hc1=>?_)
  ·refine Ai<|Ap (.refc (ix ids 2) g2 0 0 64 128)<|Ax (.refc (ix ids 2) g2 0 0 128 128) J (B2 (Aha (a:=0) (b:=128) Df Eg J (Ag9 (by decide)) Ag7 (by decide) (.inl J)))<|Ad (.refc (ix ids 2) g2 0 0 128 128)<|O<|Y<|Aa 2 [] [(35,.refc (ix ids 2) g2 0 0 128 128),(34,.refc (ix ids 2) g2 0 0 128 128)]<|Ax (.I 128) J (Ca (Un Df))<|Aw (.I 120)<|Ax (.refc (ix ids 2) g2 0 120 8 8) J (B2 (Aha (a:=120) (b:=128) Df Eg J Ag7 (Ag9 (by decide)) (by decide) (.inr (by decide))))<|Ap (.sl 1 (List.map (rI .u8) b))<|Bl b<|Aw (.int .u64 (IntKind.wrap .u64 (b.length:Int)))<|Aw (.int .u64 (IntKind.wrap .u64 ((IntKind.wrap .u64 (b.length:Int)) * 8)))<|D8 [2] hI J J (Aaw 120 8 (IntKind.wrap .u64 ((IntKind.wrap .u64 (b.length:Int)) * 8)) (Nl (R1 (B0 128 (0:Int)) 0 rest1) (Int.toNat (rest1.length:Int)) 128) _ (ix ids 2) g2 (by decide) (by exact hI.sub' J J)) J J J J J J (fun v _=>Dt func112 hI) ?_
   rintro r1 _ _ _ ⟨rfl,rfl⟩
   refine Hx [2] hI J J J ?_
   refine Ew<|O<|Ar ?_
   refine Ac<|Cu (fun o3=>Lw o3) (fun o3=>fun fr h=>fr=Ag [(2,.q ids 0 g),(3,.q ids 1 g1)]∧h=hp h0 ids [Aq g 32 [rU (B0 32 0)],Aq g1 8 [(rV (rI .u32)) o3],none]) ?_ fun hJ=>?_
   ·rintro o3 fr h ⟨rfl,rfl⟩
    refine Ah (Lw.eq_1 _)<|Ac<|Y<|Aa 2 [1] [(54,.I 0),(53,.A ((rV (rI .u32)) o3))]<|O<|Ao<|Cc 2<|B6 [2,53,54] ?_
    refine De (P:=Tryz.prog) (List.range 8) (fun j _=>fun o4=>Qe o3 j o4) (((fun o4=>.ok o4)):(Vector Int 32)→R (Vector Int 32)) (fun j=>fun o4=>fun fr h=>fr=Ag [(2,.q ids 0 g),(53,.A ((rV (rI .u32)) o3)),(54,.I j)]∧h=hp h0 ids [Aq g 32 [rU o4],none,none]) (B0 32 0) ?_ ?_ ?_
    ·exact⟨J,J⟩
    ·rintro j a ha W hW2 o4 fr h ⟨rfl,rfl⟩
     refine Ah (m':=Qe o3 j o4) J (Ah (Qe.eq_1 _ _ _) ?_)
     refine Y<|Aw (.B (decide ((j:Int)<8)))<|O<|Ac<|Bx J (by have:=(Cb ha).1; omega)<|Aj<|Ac<|Ao<|Y<|Ap (.I j)<|Ax (.int .u32 (A2 o3 j 0)) J (Ain (Alz (e:=(rI .u32)) (E:=(fun x:Int=>(AV.int .u32 x))) (fun _=>J) E6 Bq J J ((Cb ha).1) 0))<|Aa 2 [] [(8,.int .u32 (A2 o3 j 0)),(7,.I j)]<|O<|Ai<|Aa 5 [] [(62,.I (wi ((wi (4 * (j:Int)))+4))),(59,.I (wi (4 * (j:Int))))]<|B3 fun hi1=>Ax (.refc (ix ids 0) g 0 (Int.toNat (wi (4 * (j:Int)))) 4 (32 - (Int.toNat (wi (4 * (j:Int)))))) J (B2 (Amk (k:=4) hI J J Bj Eg J hi1.1 hi1.2)) ?_
     refine Ap (.int .u32 (A2 o3 j 0))<|Aw (.int .u64 (IntKind.wrap .u64 (A2 o3 j 0)))<|D8 [0] hI J J (Xr (Int.toNat (wi (4 * (j:Int)))) (32 - (Int.toNat (wi (4 * (j:Int))))) (IntKind.wrap .u64 (A2 o3 j 0)) o4 _ (ix ids 0) g (Aqg hi1.2) (by exact hI.sub' J J)) J J J J J J (fun v _=>Dt func112 hI) ?_
     rintro r3 _ _ _ ⟨rfl,rfl⟩
     refine Hx [0] hI J J J ?_
     refine Ew<|O<|Ar ?_
     refine Ay<|Ai<|Aa 2 [] [(54,.I (wi ((j:Int)+1)))]<|O<|A3 (Gf (hW2 r3 _ _ ⟨J,J⟩)) (.r2 (.cons (F3 (Cb ha).1 (by decide)) .nil))
    rintro o4 fr h ⟨rfl,rfl⟩
    refine Y<|Aw (.B (decide (((List.range 8).length:Int)<8)))<|O<|Ac<|Bw J (by simp)<|Bd J<|Y<|Aa 1 [0] [(68,.A (rU o4))]<|B8 (D5 (v:=(.A (rU o4))) hI J J J Bj J J J (((Ct (fun x=>Bo x) J) _).1) J)<|O<|Bu func112 hI (Bn (A6 hI J J J Bj J) Bz) (.same _)
   refine Ao<|Tz [Aq g 32 [rU (B0 32 0)],Aq g1 8 [(rV (rI .u32)) o1],none] [(2,.q ids 0 g),(3,.q ids 1 g1),(4,.func (.func 133) [.q ids 1 g1] []),(6,.sl 1 (List.map (rI .u8) (r1.toList.take 128)))] hI J (.keep (.keep (.drop .nil))) (.s (.s (.s (.cons (Amt (E:=(fun x:Int=>(AV.int .u8 x))) (fun _=>J) (fun _=>J) (hI.at J J) (hI.at J J) (by decide)) .nil))))<|B6 [2,3,4,6] ?_
   refine Gg (P:=Tryz.prog) (C7 fun vend o2=>Kd vend o2) ((fun o3=>Lw o3):(Vector Int 8)→R (Vector Int 32)) (C7 fun vend o2=>fun fr h=>fr=Ag [(2,.q ids 0 g),(3,.q ids 1 g1),(4,.func (.func 133) [.q ids 1 g1] []),(6,.sl 1 (List.map (rI .u8) vend))]∧h=hp h0 ids [Aq g 32 [rU (B0 32 0)],Aq g1 8 [(rV (rI .u32)) o2],none]) ((r1.toList.take 128),o1) ?_ ?_
   ·exact⟨J,J⟩
   rintro vW1 hW1 ⟨vend,o2⟩ fr h ⟨rfl,rfl⟩
   refine Ah (m':=Kd vend o2) J (Ah (Kd.eq_1 _ _) ?_)
   refine Ac<|Y<|Ap (.sl 1 (List.map (rI .u8) vend))<|Bl vend<|Aw (.B (decide ((vend.length:Int) > 0)))<|O<|C1 J (fun hc2=>?_) (fun hc2=>?_)
   ·refine Aj<|Ac<|Ao<|Ai<|Aa 2 [] [(50,.sl 1 (List.map (rI .u8) vend)),(49,.func (.func 133) [.q ids 1 g1] [])]<|B3 fun hs2=>Ax (.sl 1 (List.map (rI .u8) (vend.take (Int.toNat 64)))) J (B2 (M4 Df Eg J hs2))<|D8 [1] hI J J (Ot (vend.take (Int.toNat 64)) o2 _ (ix ids 1) g1 (by exact hI.sub' J J)) J J J J J J (fun v _=>Dt func112 hI) ?_
    rintro r2 _ _ _ ⟨rfl,rfl⟩
    refine Hx [1] hI J J J ?_
    refine Ew<|O<|Ar ?_
    refine Ay<|Ai<|Ap (.sl 1 (List.map (rI .u8) vend))<|B3 fun hs3=>Ax (.sl 1 (List.map (rI .u8) (vend.drop (Int.toNat 64)))) J (B2 (Jf Df Eg J hs3))<|Ad (.sl 1 (List.map (rI .u8) (vend.drop (Int.toNat 64))))<|O<|A3 (Fa (hW1 ((vend.drop (Int.toNat 64)),r2) _ _ ⟨J,J⟩))
   refine Bd J<|Ec<|A3 (hJ o2 _ _ ⟨J,J⟩)
  refine Aj<|Y<|Aa 2 [] [(35,.refc (ix ids 2) g2 0 0 64 128),(34,.refc (ix ids 2) g2 0 0 64 128)]<|Ax (.I 64) J (Ca (Un Df))<|Aw (.I 56)<|Ax (.refc (ix ids 2) g2 0 56 8 72) J (B2 (Aha (a:=56) (b:=64) Df Eg J Ag7 (Ag9 (by decide)) (by decide) (.inr (by decide))))<|Ap (.sl 1 (List.map (rI .u8) b))<|Bl b<|Aw (.int .u64 (IntKind.wrap .u64 (b.length:Int)))<|Aw (.int .u64 (IntKind.wrap .u64 ((IntKind.wrap .u64 (b.length:Int)) * 8)))<|D8 [2] hI J J (Aaw 56 72 (IntKind.wrap .u64 ((IntKind.wrap .u64 (b.length:Int)) * 8)) (Nl (R1 (B0 128 (0:Int)) 0 rest1) (Int.toNat (rest1.length:Int)) 128) _ (ix ids 2) g2 (by decide) (by exact hI.sub' J J)) J J J J J J (fun v _=>Dt func112 hI) ?_
  rintro r4 _ _ _ ⟨rfl,rfl⟩
  refine Hx [2] hI J J J ?_
  refine Ew<|O<|Ar ?_
  refine Ac<|Cu (fun o6=>P7 o6) (fun o6=>fun fr h=>fr=Ag [(2,.q ids 0 g),(3,.q ids 1 g1)]∧h=hp h0 ids [Aq g 32 [rU (B0 32 0)],Aq g1 8 [(rV (rI .u32)) o6],none]) ?_ fun hJ1=>?_
  ·rintro o6 fr h ⟨rfl,rfl⟩
   refine Ah (P7.eq_1 _)<|Ac<|Y<|Aa 2 [1] [(54,.I 0),(53,.A ((rV (rI .u32)) o6))]<|O<|Ao<|Cc 2<|B6 [2,53,54] ?_
   refine De (P:=Tryz.prog) (List.range 8) (fun j1 _=>fun o7=>Sf o6 j1 o7) (((fun o7=>.ok o7)):(Vector Int 32)→R (Vector Int 32)) (fun j1=>fun o7=>fun fr h=>fr=Ag [(2,.q ids 0 g),(53,.A ((rV (rI .u32)) o6)),(54,.I j1)]∧h=hp h0 ids [Aq g 32 [rU o7],none,none]) (B0 32 0) ?_ ?_ ?_
   ·exact⟨J,J⟩
   ·rintro j1 a1 ha1 W hW4 o7 fr h ⟨rfl,rfl⟩
    refine Ah (m':=Sf o6 j1 o7) J (Ah (Sf.eq_1 _ _ _) ?_)
    refine Y<|Aw (.B (decide ((j1:Int)<8)))<|O<|Ac<|Bx J (by have:=(Cb ha1).1; omega)<|Aj<|Ac<|Ao<|Y<|Ap (.I j1)<|Ax (.int .u32 (A2 o6 j1 0)) J (Ain (Alz (e:=(rI .u32)) (E:=(fun x:Int=>(AV.int .u32 x))) (fun _=>J) E6 Bq J J ((Cb ha1).1) 0))<|Aa 2 [] [(8,.int .u32 (A2 o6 j1 0)),(7,.I j1)]<|O<|Ai<|Aa 5 [] [(62,.I (wi ((wi (4 * (j1:Int)))+4))),(59,.I (wi (4 * (j1:Int))))]<|B3 fun hi2=>Ax (.refc (ix ids 0) g 0 (Int.toNat (wi (4 * (j1:Int)))) 4 (32 - (Int.toNat (wi (4 * (j1:Int)))))) J (B2 (Amk (k:=4) hI J J Bj Eg J hi2.1 hi2.2)) ?_
    refine Ap (.int .u32 (A2 o6 j1 0))<|Aw (.int .u64 (IntKind.wrap .u64 (A2 o6 j1 0)))<|D8 [0] hI J J (Xr (Int.toNat (wi (4 * (j1:Int)))) (32 - (Int.toNat (wi (4 * (j1:Int))))) (IntKind.wrap .u64 (A2 o6 j1 0)) o7 _ (ix ids 0) g (Aqg hi2.2) (by exact hI.sub' J J)) J J J J J J (fun v _=>Dt func112 hI) ?_
    rintro r6 _ _ _ ⟨rfl,rfl⟩
    refine Hx [0] hI J J J ?_
    refine Ew<|O<|Ar ?_
    refine Ay<|Ai<|Aa 2 [] [(54,.I (wi ((j1:Int)+1)))]<|O<|A3 (Gf (hW4 r6 _ _ ⟨J,J⟩)) (.r2 (.cons (F3 (Cb ha1).1 (by decide)) .nil))
   rintro o7 fr h ⟨rfl,rfl⟩
   refine Y<|Aw (.B (decide (((List.range 8).length:Int)<8)))<|O<|Ac<|Bw J (by simp)<|Bd J<|Y<|Aa 1 [0] [(68,.A (rU o7))]<|B8 (D5 (v:=(.A (rU o7))) hI J J J Bj J J J (((Ct (fun x=>Bo x) J) _).1) J)<|O<|Bu func112 hI (Bn (A6 hI J J J Bj J) Bz) (.same _)
  refine Ao<|Tz [Aq g 32 [rU (B0 32 0)],Aq g1 8 [(rV (rI .u32)) o1],none] [(2,.q ids 0 g),(3,.q ids 1 g1),(4,.func (.func 133) [.q ids 1 g1] []),(6,.sl 1 (List.map (rI .u8) (r4.toList.take 64)))] hI J (.keep (.keep (.drop .nil))) (.s (.s (.s (.cons (Amt (E:=(fun x:Int=>(AV.int .u8 x))) (fun _=>J) (fun _=>J) (hI.at J J) (hI.at J J) (by decide)) .nil))))<|B6 [2,3,4,6] ?_
  refine Gg (P:=Tryz.prog) (C7 fun vend1 o5=>Qg vend1 o5) ((fun o6=>P7 o6):(Vector Int 8)→R (Vector Int 32)) (C7 fun vend1 o5=>fun fr h=>fr=Ag [(2,.q ids 0 g),(3,.q ids 1 g1),(4,.func (.func 133) [.q ids 1 g1] []),(6,.sl 1 (List.map (rI .u8) vend1))]∧h=hp h0 ids [Aq g 32 [rU (B0 32 0)],Aq g1 8 [(rV (rI .u32)) o5],none]) ((r4.toList.take 64),o1) ?_ ?_
  ·exact⟨J,J⟩
  rintro vW3 hW3 ⟨vend1,o5⟩ fr h ⟨rfl,rfl⟩
  refine Ah (m':=Qg vend1 o5) J (Ah (Qg.eq_1 _ _) ?_)
  refine Ac<|Y<|Ap (.sl 1 (List.map (rI .u8) vend1))<|Bl vend1<|Aw (.B (decide ((vend1.length:Int) > 0)))<|O<|C1 J (fun hc3=>?_) (fun hc3=>?_)
  ·refine Aj<|Ac<|Ao<|Ai<|Aa 2 [] [(50,.sl 1 (List.map (rI .u8) vend1)),(49,.func (.func 133) [.q ids 1 g1] [])]<|B3 fun hs4=>Ax (.sl 1 (List.map (rI .u8) (vend1.take (Int.toNat 64)))) J (B2 (M4 Df Eg J hs4))<|D8 [1] hI J J (Ot (vend1.take (Int.toNat 64)) o5 _ (ix ids 1) g1 (by exact hI.sub' J J)) J J J J J J (fun v _=>Dt func112 hI) ?_
   rintro r5 _ _ _ ⟨rfl,rfl⟩
   refine Hx [1] hI J J J ?_
   refine Ew<|O<|Ar ?_
   refine Ay<|Ai<|Ap (.sl 1 (List.map (rI .u8) vend1))<|B3 fun hs5=>Ax (.sl 1 (List.map (rI .u8) (vend1.drop (Int.toNat 64)))) J (B2 (Jf Df Eg J hs5))<|Ad (.sl 1 (List.map (rI .u8) (vend1.drop (Int.toNat 64))))<|O<|A3 (Fa (hW3 ((vend1.drop (Int.toNat 64)),r5) _ _ ⟨J,J⟩))
  refine Bd J<|Ec<|A3 (hJ1 o5 _ _ ⟨J,J⟩)
 refine Ao<|B6 [0,2,3,4,5] ?_
 refine Gg (P:=Tryz.prog) (C7 fun rest o=>Nv rest o) ((C7 fun rest1 o1=>Nt b rest1 o1):((List Int)×(Vector Int 8))→R (Vector Int 32)) (C7 fun rest o=>fun fr h=>fr=Ag [(0,.sl 1 (List.map (rI .u8) b)),(2,.q ids 0 g),(3,.q ids 1 g1),(4,.func (.func 133) [.q ids 1 g1] []),(5,.sl 1 (List.map (rI .u8) rest))]∧h=hp h0 ids [Aq g 32 [rU (B0 32 0)],Aq g1 8 [(rV (rI .u32)) o],none]) (b,Acu) ?_ ?_
 ·exact⟨J,J⟩
 rintro vW hW ⟨rest,o⟩ fr h ⟨rfl,rfl⟩
 refine Ah (m':=Nv rest o) J (Ah (Nv.eq_1 _ _) ?_)
 refine Ac<|Y<|Ap (.sl 1 (List.map (rI .u8) rest))<|Bl rest<|Aw (.B (decide ((rest.length:Int)≥64)))<|O<|C1 J (fun hc=>?_) (fun hc=>?_)
 ·refine Aj<|Ac<|Ao<|Ai<|Aa 2 [] [(18,.sl 1 (List.map (rI .u8) rest)),(17,.func (.func 133) [.q ids 1 g1] [])]<|B3 fun hs=>Ax (.sl 1 (List.map (rI .u8) (rest.take (Int.toNat 64)))) J (B2 (M4 Df Eg J hs))<|D8 [1] hI J J (Ot (rest.take (Int.toNat 64)) o _ (ix ids 1) g1 (by exact hI.sub' J J)) J J J J J J (fun v _=>Dt func112 hI) ?_
  rintro r _ _ _ ⟨rfl,rfl⟩
  refine Hx [1] hI J J J ?_
  refine Ew<|O<|Ar ?_
  refine Ay<|Ai<|Ap (.sl 1 (List.map (rI .u8) rest))<|B3 fun hs1=>Ax (.sl 1 (List.map (rI .u8) (rest.drop (Int.toNat 64)))) J (B2 (Jf Df Eg J hs1))<|Ad (.sl 1 (List.map (rI .u8) (rest.drop (Int.toNat 64))))<|O<|A3 (Fa (hW ((rest.drop (Int.toNat 64)),r) _ _ ⟨J,J⟩))
 refine Bd J<|Ec<|A3 (hJ2 (rest,o) _ _ ⟨J,J⟩)
theorem Y5 (n:Int)(h0:Ab)(o0:Nat)(hI0:Ids h0 [o0] 1):Ha n≠.bad→Bm Tryz.prog 135 [.emp,(.int .i64 n)] (hp h0 [o0] [none]) (Ed (fun a_ v h' => ∃ (v3:AV),∃ (g1:Nat),Bp v3 o0 g1 a_.length∧v3=v∧h'=hp h0 [o0] [Bb v3 g1 1 (List.map (rI .u8) a_)]) h0 (Ha n)):=by
 refine Ef (n:=27) 0 func135 J (by decide) J J hI0 J fun ids he hI=>?_
 clear hI0
 obtain rfl:ix ids 0=o0:=he 0 rfl
 clear he
 refine Ep (Ah (Ha.eq_1 _) ?_)
 refine Y<|Ad .emp<|O<|Ac<|Y<|Aa 2 [] [(6,.B (decide (n<0)))]<|O<|C1 J (fun hc=>?_) (fun hc=>?_)
 ·refine Ai<|Aw (.iface 9 (.str [99,97,110,110,111,116,32,98,101,32,110,101,103,97,116,105,118,101]))<|Ww (v:=⟨9,.str [99,97,110,110,111,116,32,98,101,32,110,101,103,97,116,105,118,101]⟩) J J (E2 (K:=1) (N:=0) func135 hI)
 refine Aj<|Ac<|Y<|Aa 2 [] [(9,.emp),(8,.I n)]<|Ax (.I 0) J (Agc (Ac4 Df))<|Ap .emp<|Ax (.I 0) J (Ca (Ac6 Df))<|Aa 3 [] [(1,.I (wi (n - 0)))]<|O<|Y<|Aa 2 [] [(16,.B (decide ((wi (n - 0)) > 0)))]<|O<|C1 J (fun hc1=>?_) (fun hc1=>?_)
 ·refine Ai<|Aa 2 [] [(18,.emp),(17,.emp)]<|Ax (.I 0) J (Agc (Ac4 Df))<|Ax .emp J (B2 (Aml Df Eg))<|Ap (.I (wi (n - 0)))<|B3 fun hl=>Afw (e:=(rI .u8)) (y:=0) (i:=(wi (n - 0))) (st:=1) (j:=0) hI J J J J J J Df Bi Eg J J J J J hl fun v1 g vH=>Ap .emp<|Ax (.I 0) J (Ca (Ac6 Df))<|B3 fun hs=>Ae5 (e:=(rI .u8)) (L:=(List.replicate (Int.toNat (wi (n - 0))) (0:Int))) (j:=0) J hI J J J vH J J Df Eg J hs fun v2 vH1=>Ad v2<|O<|Ar ?_
  refine Y<|Aa 2 [] [(4,v2)]<|O<|Fy (K:=1) (N:=0) [Bb v2 g 1 (List.map (rI .u8) ((List.replicate (Int.toNat (wi (n - 0))) (0:Int)).take (Int.toNat 0)))] func135 hI J J J (.keep .nil) (.same _) ⟨v2,g,vH1,J,J⟩
 refine Aj<|Y<|Aa 2 [] [(4,.emp)]<|O<|Fy (K:=1) (N:=0) [Bb .emp 0 1 (List.map (rI .u8) [])] func135 hI J J J (.drop .nil) (.same _) ⟨.emp,0,.nil,J,J⟩
theorem Yj (slices:(List (List Int))):CPO Tryz.prog 113 [(.sl 1 (List.map (rL 1 (rI .u8)) slices))] (F5 slices) 1 (rI .u8):=by
 refine N5 (n:=36) 0 func113 J (by decide) J J fun h0 ids hI=>Ep (Ah (F5.eq_1 _) ?_)
 refine Y<|Ad .emp<|O<|Y<|Ad (.I 0)<|O<|Ac<|Y<|Ap (.sl 1 (List.map (rL 1 (rI .u8)) slices))<|Bl slices<|Ap (.I 0)<|O<|Ao<|B6 [0,3,9,10,11] ?_
 refine De (P:=Tryz.prog) slices (fun _ a=>fun size=>G1 a size) (((fun size=>(Ha size).bind fun newslice=>(eachS (fun _ a1=>fun newslice1=>G2 a1 newslice1) 0 slices newslice).bind ((fun newslice1=>.ok newslice1)))):Int→R (List Int)) (fun j=>fun size=>fun fr h=>fr=Ag [(0,.sl 1 (List.map (rL 1 (rI .u8)) slices)),(3,.I size),(9,.sl 1 (List.map (rL 1 (rI .u8)) slices)),(10,.I (slices.length:Int)),(11,.I j)]∧h=hp h0 ids [none]) 0 ?_ ?_ ?_
 ·exact⟨J,J⟩
 ·rintro j a ha W hW size fr h ⟨rfl,rfl⟩
  refine Ah (m':=G1 a size) J (Ah (G1.eq_1 _ _) ?_)
  refine Y<|Aw (.B (decide ((j:Int)<(slices.length:Int))))<|O<|Ac<|Cp (t:=0) (L:=slices) J fun hlim=>Bx J (Int.ofNat_lt.2 (Au ha))<|Aj<|Ac<|Ao<|Y<|Ax (.cp [.sl 1 (List.map (rI .u8) a)] 0) J (As (Cl Aix Df J ha))<|Aa 2 [] [(5,.sl 1 (List.map (rI .u8) a))]<|O<|Y<|Aa 2 [] [(16,.sl 1 (List.map (rI .u8) a)),(15,.I size)]<|Bl a<|Aa 2 [] [(3,.I (wi (size+(a.length:Int))))]<|O ?_
  refine Y<|Aa 2 [] [(20,.B (decide ((wi (size+(a.length:Int)))<0)))]<|O<|C1 J (fun hc=>?_) (fun hc=>?_)
  ·refine Ai<|Aw (.iface 9 (.str [108,101,110,32,111,117,116,32,111,102,32,114,97,110,103,101]))<|Ww (v:=⟨9,.str [108,101,110,32,111,117,116,32,111,102,32,114,97,110,103,101]⟩) J J (Wq func113 hI)
  refine Aj<|Ay<|Ai<|Aa 2 [] [(11,.I (wi ((j:Int)+1)))]<|O<|A3 (Gf (hW (wi (size+(a.length:Int))) _ _ ⟨J,J⟩)) (.r4 (.o (ic ha hlim)))
 rintro size fr h ⟨rfl,rfl⟩
 refine Y<|Aw (.B (decide ((slices.length:Int)<(slices.length:Int))))<|O<|Ac<|Bw J (Int.lt_irrefl _)<|Bd J<|Y<|Ap (.I size)<|D8 [0] hI J J (Y5 size _ (ix ids 0) (by exact hI.sub' J J)) J J J J J J (fun v _=>Wq func113 hI) ?_
 rintro newslice _ _ _ ⟨v,g,vH,rfl,rfl⟩
 refine Hx [0] hI J J J ?_
 refine Ew<|Ad v<|O<|Ar ?_
 refine Ac<|Y<|Ap (.sl 1 (List.map (rL 1 (rI .u8)) slices))<|Bl slices<|Ap (.I 0)<|O<|Ao<|B6 [6,25,26,27] ?_
 refine De (P:=Tryz.prog) slices (fun _ a1=>fun newslice1=>G2 a1 newslice1) (((fun newslice1=>.ok newslice1)):(List Int)→R (List Int)) (fun j1=>fun newslice1=>fun fr h => ∃ (v1:AV),∃ (g1:Nat),Bp v1 (ix ids 0) g1 newslice1.length∧fr=Ag [(6,v1),(25,.sl 1 (List.map (rL 1 (rI .u8)) slices)),(26,.I (slices.length:Int)),(27,.I j1)]∧h=hp h0 ids [Bb v1 g1 1 (List.map (rI .u8) newslice1)]) newslice ?_ ?_ ?_
 ·exact⟨v,g,vH,J,J⟩
 ·rintro j1 a1 ha1 W hW1 newslice1 fr h ⟨v1,g1,vH1,rfl,rfl⟩
  refine Ah (m':=G2 a1 newslice1) J (Ah (G2.eq_1 _ _) ?_)
  refine Y<|Aw (.B (decide ((j1:Int)<(slices.length:Int))))<|O<|Ac<|Cp (t:=25) (L:=slices) J fun hlim1=>Bx J (Int.ofNat_lt.2 (Au ha1))<|Aj<|Ac<|Ao<|Y<|Ax (.cp [.sl 1 (List.map (rI .u8) a1)] 0) J (As (Cl Aix Df J ha1))<|Aa 2 [] [(8,.sl 1 (List.map (rI .u8) a1))]<|O<|Ai<|Aa 2 [] [(32,.sl 1 (List.map (rI .u8) a1)),(31,v1)]<|B3 fun hl=>Dj (e:=(rI .u8)) (L:=newslice1) (L2:=a1) (v:=v1) (g:=g1) (st:=1) (j:=0) hI J J J J vH1 J (C9 J) Df Df J Eg J J J hl fun v2 g2 vH2=>Ad v2<|O ?_
  refine Ar ?_
  refine Ay<|Ai<|Aa 2 [] [(27,.I (wi ((j1:Int)+1)))]<|O<|A3 (Gf (hW1 (newslice1++a1) _ _ ⟨v2,g2,vH2,J,J⟩)) (.r2 (.r (.cons (F3 (Au ha1) hlim1) .nil)))
 rintro newslice1 fr h ⟨v1,g1,vH1,rfl,rfl⟩
 refine Y<|Aw (.B (decide ((slices.length:Int)<(slices.length:Int))))<|O<|Ac<|Bw J (Int.lt_irrefl _)<|Bd J<|Y<|Aa 2 [] [(2,v1)]<|O<|Np (a:=newslice1) (v:=v1) (g:=g1) func113 hI J J vH1 J
theorem Sx (slices:(List (List Int))):CP Tryz.prog 113 [(.sl 1 (List.map (rL 1 (rI .u8)) slices))] (F5 slices) (fun(x:List Int)=>(AV.sl 1 (List.map (rI .u8) x))):=(Yj slices).cp (fun x=>Bo x)
theorem Pp (tag b):CP Tryz.prog 81 [.str tag,.sl 1 (List.map (rI .u8) b)] (Ir tag b) (fun x=>(AV.agg (rU x))):=by
 refine ci 14 2 func81 (Xd _ _) fun h0 ids hI hF=>Y<|Ee (j:=0) (row:=(rU (B0 32 0))) hI J J J J Bj (Hf (n:=32) (e:=(rI .u8)) (E:=(fun x:Int=>(AV.int .u8 x))) (fun _=>J) _).symm ((Ct (fun x=>Bo x) J) _) fun g=>O<|Ar ?_
 refine Y<|Ap (.str tag)<|B3 fun hl=>Awc J Xa Df Eg J J hl<|oc ((Aau (N6 tag)) _) fun r _=>Ee (j:=1) (row:=(rU (B0 32 0))) hI J J J J Bj (Hf (n:=32) (e:=(rI .u8)) (E:=(fun x:Int=>(AV.int .u8 x))) (fun _=>J) _).symm ((Ct (fun x=>Bo x) J) _) fun g1=>B8 (D5 (v:=(.A (rU r))) hI J J J Bj J J J (((Ct (fun x=>Bo x) J) _).1) J)<|O<|Ar ?_
 refine Y<|Atc [Aq g 32 [rU (B0 32 0)],none] [(1,.sl 1 (List.map (rI .u8) b)),(4,.q ids 0 g),(5,.cp (rU r) 0)] hI J (.keep (.drop .nil)) (.s (.s (.cons (.ptrL (hI.at J J) (hI.at J J) ((Ct (fun x=>Bo x) J) _).1 (Pa _)) .nil)))<|Ax (.sl 1 (List.map (rI .u8) r.toList)) J (B2 (Ac7 (E:=(fun x:Int=>(AV.int .u8 x))) (fun _=>J) (fun _=>J) Bj Eg J)) ?_
 refine Ap (.sl 1 (List.map (rI .u8) b))<|Dq (e:=(rL 1 (rI .u8))) (L:=[r.toList,b]) (st:=1) (rows:=[[.sl 1 (List.map (rI .u8) r.toList)],[.sl 1 (List.map (rI .u8) b)]]) J Aix Df J J J J J (.cons (RowSim.refl _) (.cons (RowSim.refl _) .nil)) (fun x=>Adx x) J J<|oc ((Sx [r.toList,b]) _) fun r1 _=>oc ((Aau r1) _) fun r2 _=>B8 (D5 (v:=(.A (rU r2))) hI J J J Bj J J J (((Ct (fun x=>Bo x) J) _).1) J)<|O<|Ar ?_
 exact Bu func81 hI (Bn (A6 hI J J J Bj J) Bz) (.same _)
theorem Va (salt l):CP Tryz.prog 61 [.A (rU salt),.K l] (H7 salt l) (fun x=>(AV.agg (rU x))):=by
 refine ci 34 5 func61 (H7.eq_1 _ _) fun h0 ids hI hF=>Y<|B5 0 (.A (rU salt)) fun g=>Ee (j:=1) (row:=(rU (B0 32 0))) hI J J J J Bj (Hf (n:=32) (e:=(rI .u8)) (E:=(fun x:Int=>(AV.int .u8 x))) (fun _=>J) _).symm ((Ct (fun x=>Bo x) J) _) fun g1=>O<|Ar ?_
 refine Y<|Aw (.A [.I 3,.I 0,.str [],.emp])<|Co 2 N0 fun g2=>Bs (.A [.I 3,.I 0,.str [],.emp]) ?_
 refine O<|Ar ?_
 refine Ac<|Y<|Ap (.K l)<|Bl l<|Ap (.I 0)<|O<|Ao<|B6 [2,4,5,11,12,13] ?_
 refine De (P:=Tryz.prog) l (fun _ a=>fun l1=>Hd a l1) (((fun l1=>(O1 ({ Kind:=3,N:=0,S:=[],L:=l1 }:Value)).bind fun r=>if r.1.length≠0∧(32+r.1.length) * 1≤Bt then(Ir [99,111,115,116] (salt.toList++r.1)).bind fun r1=>.ok r1 else .bad)):(List Value)→R (Vector Int 32)) (fun j=>fun l1=>fun fr h => ∃ (v:AV),∃ (g3:Nat),Bp v (ix ids 3) g3 l1.length∧fr=Ag [(2,.q ids 0 g),(4,.q ids 1 g1),(5,.q ids 2 g2),(11,.K l),(12,.I (l.length:Int)),(13,.I j)]∧h=hp h0 ids [Aq g 32 [rU salt],Aq g1 32 [rU (B0 32 0)],Aq g2 4 [[.I 3,.I 0,.str [],v]],Bb v g3 4 (List.map rValueA l1),none]) [] ?_ ?_ ?_
 ·exact⟨.emp,0,.nil,J,J⟩
 ·rintro j a ha W hW l1 fr h ⟨v,g3,vH,rfl,rfl⟩
  refine Ah (m':=Hd a l1) J (Ah (Hd.eq_1 _ _) ?_)
  refine Y<|Aw (.B (decide ((j:Int)<(l.length:Int))))<|O<|Ac<|Cp (t:=11) (L:=l) J fun hlim=>Bx J (Int.ofNat_lt.2 (Au ha))<|Aj<|Ac<|Ao<|Y<|Ax (.cp [.I a] 0) J (As (Cl A7 Bi J ha))<|Aa 2 [] [(7,.I a)]<|O<|Ai<|Aa 4 [2] [(20,.A [.I 1,.I a,.str [],.emp]),(18,v)]<|Dq (e:=rValueA) (L:=[({ Kind:=1,N:=a,S:=[],L:=[] }:Value)]) (st:=4) (rows:=[[.I 1,.I a,.str [],.emp]]) J J5 N0 J J J J J (.cons (Atj (.s (.s (.s (.cons (.emp _) .nil))))) .nil) (fun x=>Ajw x) J J<|B3 fun hl=>Dj (e:=rValueA) (L:=l1) (L2:=[({ Kind:=1,N:=a,S:=[],L:=[] }:Value)]) (v:=v) (g:=g3) (st:=4) (j:=3) hI J J J J vH J (C9 J) J5 J5 J N0 J J J hl fun v1 g4 vH1=>Aw (.ptr (ix ids 2) g2 0 3) ?_
  refine B8 (Uv vH1 hI J J J J J5 J J J)<|O<|Ar ?_
  refine Ay<|Ai<|Aa 2 [] [(13,.I (wi ((j:Int)+1)))]<|O<|A3 (Gf (hW (l1++[({ Kind:=1,N:=a,S:=[],L:=[] }:Value)]) _ _ ⟨v1,g4,vH1,J,J⟩)) (.r4 (.r (.o (ic ha hlim))))
 rintro l1 fr h ⟨v,g3,vH,rfl,rfl⟩
 refine Y<|Aw (.B (decide ((l.length:Int)<(l.length:Int))))<|O<|Ac<|Bw J (Int.lt_irrefl _)<|Bd J<|Y<|Aa 1 [2] [(26,.A [.I 3,.I 0,.str [],v])]<|Zb (h2:=hp h0 ids [Aq g 32 [rU salt],Aq g1 32 [rU (B0 32 0)],none,none,none]) [(2,.q ids 0 g),(4,.q ids 1 g1),(26,.A (Cd ({ Kind:=3,N:=0,S:=[],L:=l1 }:Value)))] (Drops.sub (.keep (.keep (.drop (.drop (.keep .nil))))) hI.len) (.s (.s (.cons (.aggL (.s (.s (.s (.cons (E5 vH (hI.at J J) (hI.at J J) (fun x=>Ajw x)) .nil))))) .nil))) J J<|oc ((Ae7 ({ Kind:=3,N:=0,S:=[],L:=l1 }:Value)) _) fun r _=>Aa 5 [] [(8,.sl 1 (List.map (rI .u8) r.1))]<|O<|Ar ?_
 refine Y<|Ax (.refc (ix ids 0) g 0 0 32 32) J (B2 (Ahh (a:=0) (b:=32) hI J J Bj Eg J J J)) ?_
 refine Ap (.sl 1 (List.map (rI .u8) r.1))<|B3 fun hl1=>Anw (e:=(rI .u8)) (E1:=(fun x:Int=>(AV.int .u8 x))) (v:=salt) (L2:=r.1) (j2:=4) (fun _=>J) hI J J J J J J (C9 J) Df Df J Eg J J hl1 fun v2 g5 vH2=>Zb (h2:=hp h0 ids [Aq g 32 [rU salt],Aq g1 32 [rU (B0 32 0)],none,none,none]) [(4,.q ids 1 g1),(32,.sl 1 (List.map (rI .u8) (salt.toList++r.1)))] (Drops.sub (.keep (.keep (.keep (.keep (.drop .nil))))) hI.len) (.s (.cons (E5 vH2 (hI.at J J) (hI.at J J) (fun x=>Bo x)) .nil)) J J<|oc ((Pp [99,111,115,116] (salt.toList++r.1)) _) fun r1 _=>B8 (D5 (v:=(.A (rU r1))) hI J J J Bj J J J (((Ct (fun x=>Bo x) J) _).1) J)<|O<|Ar ?_
 exact Bu func61 hI (Bn (A6 hI J J J Bj J) Bz) (.same _)
theorem Abh (a):CP Tryz.prog 137 [.int .u64 a] (Th a) (.int .i64):=by
 refine ci 25 0 func137 (Th.eq_1 _) fun h0 ids hI hF=>Y<|Ad (.I 0)<|O<|Ac<|Y<|Aa 2 [] [(4,.B (decide (a≥4294967296)))]<|O<|Cu (C7 fun x n=>N7 x n) (C7 fun x n=>fun fr h=>fr=Ag [(0,.int .u64 x),(2,.I n)]∧h=hp h0 ids []) ?_ fun hJ1=>?_
 ·rintro⟨x,n⟩ fr h ⟨rfl,rfl⟩
  refine Ah (N7.eq_1 _ _)<|Ac<|Y<|Aa 2 [] [(8,.B (decide (x≥65536)))]<|O<|Cu (C7 fun x1 n1=>Oh x1 n1) (C7 fun x1 n1=>fun fr h=>fr=Ag [(0,.int .u64 x1),(2,.I n1)]∧h=hp h0 ids []) ?_ fun hJ=>?_
  ·rintro⟨x1,n1⟩ fr h ⟨rfl,rfl⟩
   refine Ah (Oh.eq_1 _ _)<|Ac<|Y<|Aa 2 [] [(14,.B (decide (x1≥256)))]<|O<|C1 J (fun hc2=>?_) (fun hc2=>?_)
   ·refine Y<|Ap (.int .u64 x1)<|Ax (.int .u64 (Int.fdiv x1 256)) J (Bf J J (Kb (by decide) (by decide)))<|Ad (.int .u64 (Int.fdiv x1 256))<|O<|Ai<|Aa 3 [] [(2,.I (wi (n1+8)))]<|O<|Y<|Aa 2 [] [(20,.int .u64 (Int.fdiv x1 256)),(19,.I (wi (n1+8)))]<|Aw (.int .u8 (IntKind.wrap .u8 (Int.fdiv x1 256)))<|Gw fun a1 hz hx1=>Ax (.int .u8 (a1.toNat:Int)) J (Ain (Aqk Xa hz hx1))<|Aw (.I (wi (a1.toNat:Int)))<|Aa 2 [] [(2,.I (wi ((wi (n1+8))+(wi (a1.toNat:Int)))))]<|O<|rt
   refine Aj<|Y<|Aa 2 [] [(20,.int .u64 x1),(19,.I n1)]<|Aw (.int .u8 (IntKind.wrap .u8 x1))<|Gw fun a2 hz1 hx2=>Ax (.int .u8 (a2.toNat:Int)) J (Ain (Aqk Xa hz1 hx2))<|Aw (.I (wi (a2.toNat:Int)))<|Aa 2 [] [(2,.I (wi (n1+(wi (a2.toNat:Int)))))]<|O<|rt
  refine C1 J (fun hc1=>?_) (fun hc1=>?_)
  ·refine Y<|Ap (.int .u64 x)<|Ax (.int .u64 (Int.fdiv x 65536)) J (Bf J J (Kb (by decide) (by decide)))<|Ad (.int .u64 (Int.fdiv x 65536))<|O<|Ai<|Aa 3 [] [(2,.I (wi (n+16)))]<|O<|A3 (hJ ((Int.fdiv x 65536),wi (n+16)) _ _ ⟨J,J⟩)
  refine Aj<|A3 (hJ (x,n) _ _ ⟨J,J⟩)
 refine C1 J (fun hc=>?_) (fun hc=>?_)
 ·refine Y<|Ap (.int .u64 a)<|Ax (.int .u64 (Int.fdiv a 4294967296)) J (Bf J J (Kb (by decide) (by decide)))<|Ad (.int .u64 (Int.fdiv a 4294967296))<|O<|Ai<|Ad (.I 32)<|O<|A3 (hJ1 ((Int.fdiv a 4294967296),32) _ _ ⟨J,J⟩)
 refine Aj<|A3 (hJ1 (a,0) _ _ ⟨J,J⟩)
theorem Aea (a):CP Tryz.prog 114 [.int .u64 a] (Vx a) (.int .i64):=by
 refine ci 8 0 func114 (Vx.eq_1 _) fun h0 ids hI hF=>Y<|Ad (.I 0)<|O<|Ac<|O5 false J<|Aj<|Y<|Ap (.int .u64 a)<|oc ((Abh a) _) fun r _=>Ad (.I r)<|O<|rt
theorem Ue (n):CP Tryz.prog 83 [.int .i64 n] (Gp n) (.int .i64):=by
 refine ci 9 0 func83 (Gp.eq_1 _) fun h0 ids hI hF=>Y<|Ad (.I 0)<|O<|Y<|Aa 2 [] [(4,.I (wi (n - 1)))]<|Aw (.int .u64 (IntKind.wrap .u64 (wi (n - 1))))<|oc ((Aea (IntKind.wrap .u64 (wi (n - 1)))) _) fun r _=>Aw (.I (wi (r - 1)))<|B3 fun hz=>Ax (.I (Qo .i64 1 (wi (r - 1)))) J (Bf J J (Aam hz))<|Ad (.I (Qo .i64 1 (wi (r - 1))))<|O<|rt
theorem Yx (d):CP Tryz.prog 82 [.A (rU d)] (Oq d) (fun x=>(AV.agg (rU x))):=by
 refine ci 5 2 func82 (Oq.eq_1 _) fun h0 ids hI hF=>Y<|B5 0 (.A (rU d)) fun g=>Ee (j:=1) (row:=(rU (B0 32 0))) hI J J J J Bj (Hf (n:=32) (e:=(rI .u8)) (E:=(fun x:Int=>(AV.int .u8 x))) (fun _=>J) _).symm ((Ct (fun x=>Bo x) J) _) fun g1=>O<|Ar ?_
 refine Y<|Atc [none,Aq g1 32 [rU (B0 32 0)]] [(1,.cp (rU d) 0),(2,.q ids 1 g1)] hI J (.drop (.keep .nil)) (.cons (.ptrL (hI.at J J) (hI.at J J) ((Ct (fun x=>Bo x) J) _).1 (Pa _)) .s1)<|Ax (.sl 1 (List.map (rI .u8) d.toList)) J (B2 (Ac7 (E:=(fun x:Int=>(AV.int .u8 x))) (fun _=>J) (fun _=>J) Bj Eg J)) ?_
 refine oc ((Pp [108,101,97,102] d.toList) _) fun r _=>B8 (D5 (v:=(.A (rU r))) hI J J J Bj J J J (((Ct (fun x=>Bo x) J) _).1) J)<|O<|Ar ?_
 exact Bu func82 hI (Bn (A6 hI J J J Bj J) Bz) (.same _)
theorem Ug (a b):CP Tryz.prog 84 [.A (rU a),.A (rU b)] (Mf a b) (fun x=>(AV.agg (rU x))):=by
 refine ci 10 3 func84 (Mf.eq_1 _ _) fun h0 ids hI hF=>Y<|B5 0 (.A (rU a)) fun g=>B5 1 (.A (rU b)) fun g1=>Ee (j:=2) (row:=(rU (B0 32 0))) hI J J J J Bj (Hf (n:=32) (e:=(rI .u8)) (E:=(fun x:Int=>(AV.int .u8 x))) (fun _=>J) _).symm ((Ct (fun x=>Bo x) J) _) fun g2=>O<|Ar ?_
 refine Ac<|Tz [none,Aq g1 32 [rU b],Aq g2 32 [rU (B0 32 0)]] [(2,.cp (rU a) 0),(3,.q ids 1 g1),(4,.q ids 2 g2)] hI J (.drop (.keep (.keep .nil))) (.cons (.ptrL (hI.at J J) (hI.at J J) ((Ct (fun x=>Bo x) J) _).1 (Pa _)) .s2)<|Tz [none,none,Aq g2 32 [rU (B0 32 0)]] [(2,.cp (rU a) 0),(3,.cp (rU b) 0),(4,.q ids 2 g2)] hI J (.keep (.drop (.keep .nil))) (.s (.cons (.ptrL (hI.at J J) (hI.at J J) ((Ct (fun x=>Bo x) J) _).1 (Pa _)) .s1))<|By [0,0,3,7,15,31] [pR 0,pR 1,pE 2,pE 3,pE 4,pE 5] Dn<|A0 (.sl 1 (List.map (rI .u8) a.toList)) J J (B2 (Ac7 (E:=(fun x:Int=>(AV.int .u8 x))) (fun _=>J) (fun _=>J) Bj Eg J)) ?_
 refine A0 (.sl 1 (List.map (rI .u8) b.toList)) J J (B2 (Ac7 (E:=(fun x:Int=>(AV.int .u8 x))) (fun _=>J) (fun _=>J) Bj Eg J)) ?_
 refine Fj J J (fun _ _=>J) (fun K hK=>Ky (e:=(rL 1 (rI .u8))) (L:=[a.toList,b.toList]) (st:=1) (rows:=[[.sl 1 (List.map (rI .u8) a.toList)],[.sl 1 (List.map (rI .u8) b.toList)]]) Aix Df J J J J J (.cons (RowSim.refl _) (.cons (RowSim.refl _) .nil)) (fun x=>Adx x) J J (hK _ _ Dw ?_))
 clear hK K
 refine H0 ((Sx [a.toList,b.toList]) _) fun r _=>?_
 refine H0 ((Pp [110,111,100,101] r) _) fun r1 _=>?_
 refine Kq J (fun _ _=>J) (fun K hK=>Fe (D5 (v:=(.A (rU r1))) hI J J J Bj J J J (((Ct (fun x=>Bo x) J) _).1) J) (hK _ _ Dw ?_))
 clear hK K
 refine Be<|Ar ?_
 exact Bu func84 hI (Bn (A6 hI J J J Bj J) Bz) (.same _)
theorem X5 (d vat n p):CP Tryz.prog 62 [.A (rU d),.int .i64 vat,.int .i64 n,.M p] (O2 d vat n p) (fun p=>AV.tup [.A (rU p.1),.int .i64 p.2]):=by
 refine ci 81 4 func62 (O2.eq_1 _ _ _ _) fun h0 ids hI hF=>Y<|B5 0 (.A (rU d)) fun g=>Ee (j:=1) (row:=(rU (B0 32 0))) hI J J J J Bj (Hf (n:=32) (e:=(rI .u8)) (E:=(fun x:Int=>(AV.int .u8 x))) (fun _=>J) _).symm ((Ct (fun x=>Bo x) J) _) fun g1=>Ad (.I 0)<|O<|Ar ?_
 refine Ac<|Y<|Aa 3 [] [(16,.B (decide (n<1)))]<|B4 3 16 19 [1,2,3,4,8] (.B ((decide (n<1))||(decide (n > 1099511627776)))) J ?_ (fun hb1 hJ=>?_) (fun hb1 hJ=>?_)
 ·refine Ap (.B ((decide (n<1))||(decide (n > 1099511627776))))<|B4 3 20 23 [1,2,3,4,8] (.B (((decide (n<1))||(decide (n > 1099511627776)))||(decide (vat<0)))) J ?_ (fun hb3 hJ1=>?_) (fun hb3 hJ1=>?_)
  ·refine Ap (.B (((decide (n<1))||(decide (n > 1099511627776)))||(decide (vat<0))))<|B4 4 24 28 [1,2,3,4,8] (.B ((((decide (n<1))||(decide (n > 1099511627776)))||(decide (vat<0)))||(decide (vat≥n)))) J ?_ (fun hb5 hJ2=>?_) (fun hb5 hJ2=>?_)
   ·refine O<|A8 J (fun hc=>?_) (fun hc=>?_)
    ·refine Y<|Aa 1 [1] [(29,.A (rU (B0 32 0)))]<|B8 (D5 (v:=(.A (rU (B0 32 0)))) hI J J J Bj J J J (((Ct (fun x=>Bo x) J) _).1) J)<|Ad (.I 1)<|O<|Bu func62 hI (Bn (A6 hI J J J Bj J) (Ce Bz)) (.tupL .s2)
    refine Aj<|Y<|Ad .emp<|O<|Ac<|Cu (fun first1=>Ol d p first1) (fun first1=>fun fr h => ∃ (v2:AV),∃ (g4:Nat),Bp v2 (ix ids 2) g4 first1.length∧fr=Ag [(3,.M p),(4,.q ids 0 g),(8,.q ids 1 g1),(10,v2)]∧h=hp h0 ids [Aq g 32 [rU d],Aq g1 32 [rU (B0 32 0)],Bb v2 g4 1 (List.map rB first1),none]) ?_ fun hJ3=>?_
    ·rintro first1 fr h ⟨v2,g4,vH2,rfl,rfl⟩
     refine Ah (Ol.eq_1 _ _ _)<|Ac<|Y<|Ap (.M p)<|Bl p<|Ap v2<|Ax (.I (first1.length:Int)) J (Ca (Bp.len vH2 Acn))<|Aw (.B ((p.length:Int) != (first1.length:Int)))<|O<|A8 J (fun hc3=>?_) (fun hc3=>?_)
     ·refine Y<|Aa 1 [1] [(55,.A (rU (B0 32 0)))]<|B8 (D5 (v:=(.A (rU (B0 32 0)))) hI J J J Bj J J J (((Ct (fun x=>Bo x) J) _).1) J)<|Ad (.I 1)<|O<|Bu func62 hI (Bn (A6 hI J J J Bj J) (Ce Bz)) (.tupL .s2)
     refine Aj<|Y<|Aa 1 [0] [(56,.A (rU d))]<|oc ((Yx d) _) fun r _=>B8 (D5 (v:=(.A (rU r))) hI J J J Bj J J J (((Ct (fun x=>Bo x) J) _).1) J)<|O<|Ar ?_
     refine Ac<|Y<|Ap (.M p)<|Bl p<|Ap (.I 0)<|O<|Ao<|Cc 1<|B6 [8,10,58,59,60] ?_
     refine De (P:=Tryz.prog) p (fun j a=>C7 fun o first2=>H8 j a o first2) (((C7 fun o first2=>.ok (o,0))):((Vector Int 32)×(List Bool))→R ((Vector Int 32)×Int)) (fun j=>C7 fun o first2=>fun fr h=>Bp v2 (ix ids 2) g4 first2.length∧fr=Ag [(8,.q ids 1 g1),(10,v2),(58,.M p),(59,.I (p.length:Int)),(60,.I j)]∧h=hp h0 ids [none,Aq g1 32 [rU o],Bb v2 g4 1 (List.map rB first2),none]) (r,first1) ?_ ?_ ?_
     ·exact⟨vH2,J,J⟩
     ·rintro j a ha W hW1 ⟨o,first2⟩ fr h ⟨vH3,rfl,rfl⟩
      refine Ah (m':=H8 j a o first2) J (Ah (H8.eq_1 _ _ _ _) ?_)
      refine Y<|Aw (.B (decide ((j:Int)<(p.length:Int))))<|O<|Ac<|Cp (t:=58) (L:=p) J fun hlim=>Bx J (Int.ofNat_lt.2 (Au ha))<|Aj<|Ac<|Ao<|Y<|Ap (.I j)<|Ax (.cp (rU a) 0) J (As (Cl Cn Bj J ha))<|Aw (.A (rU a))<|Ee (j:=3) (row:=(rU (B0 32 0))) hI J J J J Bj (Hf (n:=32) (e:=(rI .u8)) (E:=(fun x:Int=>(AV.int .u8 x))) (fun _=>J) _).symm ((Ct (fun x=>Bo x) J) _) fun g5=>Ad (.I j)<|B8 (D5 (v:=(.A (rU a))) hI J J J Bj J J J (((Ct (fun x=>Bo x) J) _).1) J)<|O<|Ar ?_
      refine Y<|Aa 2 [] [(66,v2),(65,v2)]<|Ax (.I (first2.length:Int)) J (Ca (Bp.len vH3 Acn))<|Aa 3 [] [(70,.I (wi ((wi ((first2.length:Int) - 1)) - (j:Int))))]<|Gw fun a1 hz hx1=>Ax (.ptr (ix ids 2) g4 (Int.toNat (wi ((wi ((first2.length:Int) - 1)) - (j:Int)))) 0) J (As (Ns hI J vH3 J Acn X1 J hz hx1))<|Ax (.B a1) J (Bg (Zd hI J vH3 J hx1 X1 J))<|O<|A8 J (fun hc4=>?_) (fun hc4=>?_)
      ·refine Ai<|Aa 2 [1,3] [(74,.A (rU a)),(73,.A (rU o))]<|oc ((Ug o a) _) fun r1 _=>B8 (D5 (v:=(.A (rU r1))) hI J J J Bj J J J (((Ct (fun x=>Bo x) J) _).1) J)<|O<|Ar ?_
       refine Ay<|Ai<|Aa 2 [] [(60,.I (wi ((j:Int)+1)))]<|O<|Cc 8<|A3 (Gf (hW1 (r1,first2) _ _ ⟨vH3,J,J⟩)) (.r4 (.o (ic ha hlim)))
      refine Ai<|Aa 2 [3,1] [(77,.A (rU o)),(76,.A (rU a))]<|oc ((Ug a o) _) fun r2 _=>B8 (D5 (v:=(.A (rU r2))) hI J J J Bj J J J (((Ct (fun x=>Bo x) J) _).1) J)<|O<|Ar ?_
      refine Ay<|Ai<|Aa 2 [] [(60,.I (wi ((j:Int)+1)))]<|O<|Cc 8<|A3 (Gf (hW1 (r2,first2) _ _ ⟨vH3,J,J⟩)) (.r4 (.o (ic ha hlim)))
     rintro⟨o,first2⟩ fr h ⟨vH3,rfl,rfl⟩
     refine Ah (Ajl _ _ _)<|Y<|Aw (.B (decide ((p.length:Int)<(p.length:Int))))<|O<|Ac<|Bw J (Int.lt_irrefl _)<|Bd J<|Y<|Aa 1 [1] [(80,.A (rU o))]<|B8 (D5 (v:=(.A (rU o))) hI J J J Bj J J J (((Ct (fun x=>Bo x) J) _).1) J)<|Ad (.I 0)<|O<|Bu func62 hI (Bn (A6 hI J J J Bj J) (Ce Bz)) (.tupL .s2)
    refine Ao<|B6 [1,2,3,4,8,10] ?_
    refine Gg (P:=Tryz.prog) (Nj fun vat1 n1 first=>F0 vat1 n1 first) ((fun first1=>Ol d p first1):(List Bool)→R ((Vector Int 32)×Int)) (Nj fun vat1 n1 first=>fun fr h => ∃ (v:AV),∃ (g2:Nat),Bp v (ix ids 2) g2 first.length∧fr=Ag [(1,.I vat1),(2,.I n1),(3,.M p),(4,.q ids 0 g),(8,.q ids 1 g1),(10,v)]∧h=hp h0 ids [Aq g 32 [rU d],Aq g1 32 [rU (B0 32 0)],Bb v g2 1 (List.map rB first),none]) (vat,n,[]) ?_ ?_
    ·exact⟨.emp,0,.nil,J,J⟩
    rintro vW hW ⟨vat1,n1,first⟩ fr h ⟨v,g2,vH,rfl,rfl⟩
    refine Ah (m':=F0 vat1 n1 first) J (Ah (F0.eq_1 _ _ _) ?_)
    refine Ac<|Y<|Aa 2 [] [(31,.B (decide (n1 > 1)))]<|O<|C1 J (fun hc1=>?_) (fun hc1=>?_)
    ·refine Aj<|Ao<|Y<|Ap (.I n1)<|oc ((Ue n1) _) fun k _=>Ad (.I k)<|O<|Y<|Aa 4 [] [(37,.B (decide (vat1<k))),(34,v)]<|Dq (e:=rB) (L:=[decide (vat1<k)]) (st:=1) (rows:=[[.B (decide (vat1<k))]]) J Acn X1 J J J J J (.cons (RowSim.refl _) .nil) (fun x=>Arw x) J J<|B3 fun hl=>Dj (e:=rB) (L:=first) (L2:=[decide (vat1<k)]) (v:=v) (g:=g2) (st:=1) (j:=2) hI J J J J vH J (C9 J) Acn Acn J X1 J J J hl fun v1 g3 vH1=>Ad v1<|O<|Ar ?_
     refine Y<|Aa 3 [] [(42,.B (decide (vat1<k)))]<|O<|C1 J (fun hc2=>?_) (fun hc2=>?_)
     ·refine Ai<|Aa 2 [] [(2,.I k)]<|O<|Ay<|A3 (Fa (hW (vat1,k,first++[decide (vat1<k)]) _ _ ⟨v1,g3,vH1,J,J⟩))
     refine Ai<|Aa 8 [] [(2,.I (wi (n1 - k))),(1,.I (wi (vat1 - k)))]<|O<|Ay<|A3 (Fa (hW ((wi (vat1 - k)),wi (n1 - k),first++[decide (vat1<k)]) _ _ ⟨v1,g3,vH1,J,J⟩))
    refine Bd J<|Ec<|A3 (hJ3 first _ _ ⟨v,g2,vH,J,J⟩)
   ·refine Aa 4 [] [(28,.B true)]<|A5 hJ2 (.r4 (.r (.cons (Dp hb5) .nil)))
   refine Aa 4 [] [(28,.B (decide (vat≥n)))]<|A5 hJ2 (.r4 (.r (.cons (Do hb5) .nil)))
  ·refine Aa 3 [] [(23,.B true)]<|A5 hJ1 (.r4 (.r (.cons (Dp hb3) .nil)))
  refine Aa 3 [] [(23,.B (decide (vat<0)))]<|A5 hJ1 (.r4 (.r (.cons (Do hb3) .nil)))
 ·refine Aa 3 [] [(19,.B true)]<|A5 hJ (.r4 (.r (.cons (Dp hb1) .nil)))
 refine Aa 3 [] [(19,.B (decide (n > 1099511627776)))]<|A5 hJ (.r4 (.r (.cons (Do hb1) .nil)))
theorem Aaa (d airline tables slots o):CP Tryz.prog 25 [.A (rU d),.int .i64 airline,.int .i64 tables,.int .i64 slots,.A (Ak o)] (L0 d airline tables slots o) (.int .i64):=by
 refine ci 125 5 func25 (L0.eq_1 _ _ _ _ _) fun h0 ids hI hF=>Y<|B5 0 (.A (rU d)) fun g=>B5 1 (.A (Ak o)) fun g1=>Ad (.I 0)<|O<|Ar ?_
 refine Ac<|Y<|Aa 3 [] [(22,.B (decide (tables<1)))]<|B4 3 22 25 [1,2,3,5,9] (.B ((decide (tables<1))||(decide (tables > 8)))) J ?_ (fun hb1 hJ=>?_) (fun hb1 hJ=>?_)
 ·refine Ap (.B ((decide (tables<1))||(decide (tables > 8))))<|B4 3 26 29 [1,2,3,5,9] (.B (((decide (tables<1))||(decide (tables > 8)))||(decide (slots<1)))) J ?_ (fun hb3 hJ1=>?_) (fun hb3 hJ1=>?_)
  ·refine Ap (.B (((decide (tables<1))||(decide (tables > 8)))||(decide (slots<1))))<|B4 3 30 33 [1,2,3,5,9] (.B ((((decide (tables<1))||(decide (tables > 8)))||(decide (slots<1)))||(decide (slots > 8)))) J ?_ (fun hb5 hJ2=>?_) (fun hb5 hJ2=>?_)
   ·refine Ap (.B ((((decide (tables<1))||(decide (tables > 8)))||(decide (slots<1)))||(decide (slots > 8))))<|B4 5 34 39 [2,3,5,9] (.B (((((decide (tables<1))||(decide (tables > 8)))||(decide (slots<1)))||(decide (slots > 8)))||(o.Airline != airline))) J ?_ (fun hb7 hJ3=>?_) (fun hb7 hJ3=>?_)
    ·refine Ap (.B (((((decide (tables<1))||(decide (tables > 8)))||(decide (slots<1)))||(decide (slots > 8)))||(o.Airline != airline)))<|G5 7 40 47 [2,3,5,9] .bool J ?_ (fun hb9 hJ4=>?_) (fun hb9 hJ4=>?_)
     ·intro b
      refine Ap (.B b)<|B4 4 48 52 [2,3,5,9] (.B (b||(decide (o.Slot<0)))) J ?_ (fun hb11 hJ5=>?_) (fun hb11 hJ5=>?_)
      ·refine Ap (.B (b||(decide (o.Slot<0))))<|B4 5 53 58 [2,3,5,9] (.B ((b||(decide (o.Slot<0)))||(decide (o.Slot≥slots)))) J ?_ (fun hb13 hJ6=>?_) (fun hb13 hJ6=>?_)
       ·refine Ap (.B ((b||(decide (o.Slot<0)))||(decide (o.Slot≥slots))))<|G5 5 59 64 [2,3,5,9] .bool J ?_ (fun hb15 hJ7=>?_) (fun hb15 hJ7=>?_)
        ·intro b1
         refine O<|A8 J (fun hc=>?_) (fun hc=>?_)
         ·refine Y<|Ad (.I 360)<|O<|rt
         refine Aj<|Y<|Aa 10 [1,1,1,1,1] [(74,.I o.Cost),(72,.I o.Slot),(70,.I o.Flight),(68,.I o.Airline),(66,.A (rU o.Salt))]<|Dq (e:=rJ) (L:=[o.Airline,o.Flight,o.Slot,o.Cost]) (st:=1) (rows:=[[.I o.Airline],[.I o.Flight],[.I o.Slot],[.I o.Cost]]) J A7 Bi J J J J J (.cons (RowSim.refl _) (.cons (RowSim.refl _) (.cons (RowSim.refl _) (.cons (RowSim.refl _) .nil)))) (fun x=>Bo x) J J<|oc ((Va o.Salt [o.Airline,o.Flight,o.Slot,o.Cost]) _) fun r2 _=>Ee (j:=2) (row:=(rU (B0 32 0))) hI J J J J Bj (Hf (n:=32) (e:=(rI .u8)) (E:=(fun x:Int=>(AV.int .u8 x))) (fun _=>J) _).symm ((Ct (fun x=>Bo x) J) _) fun g2=>B8 (D5 (v:=(.A (rU r2))) hI J J J Bj J J J (((Ct (fun x=>Bo x) J) _).1) J)<|O<|Ar ?_
         refine Ac<|Y<|Aa 2 [1] [(78,.M o.Path)]<|Bl o.Path<|Aa 2 [] [(81,.I 0),(80,.I (wi ((o.Path.length:Int)+1)))]<|O<|Cu (π:=Unit) (fun _=>Md) (fun _=>fun fr h=>fr=Ag []∧h=hp h0 ids [none,none,none,none,none]) ?_ fun hJ10=>?_
         ·rintro _ fr h ⟨rfl,rfl⟩
          refine Ah (Md.eq_1)<|Y<|Ad (.I 360)<|O<|rt
         refine Ao<|B6 [2,3,5,9,11,80,81] ?_
         refine Gg (P:=Tryz.prog) (fun x=>Jx d tables slots o r2 x) ((alt (fun _=>Md) (fun r=>.ok r)):(Unit ⊕ Int)→R Int) (fun x=>fun fr h=>fr=Ag [(2,.I tables),(3,.I slots),(5,.q ids 0 g),(9,.q ids 1 g1),(11,.q ids 2 g2),(80,.I (wi ((o.Path.length:Int)+1))),(81,.I x)]∧h=hp h0 ids [Aq g 32 [rU d],Aq g1 37 [Ak o],Aq g2 32 [rU r2],none,none]) 0 ?_ ?_
         ·exact⟨J,J⟩
         rintro vW hW x fr h ⟨rfl,rfl⟩
         refine Ah (m':=Jx d tables slots o r2 x) J (Ah (Jx.eq_1 _ _ _ _ _ _) ?_)
         refine Y<|Aw (.B (decide (x<(wi ((o.Path.length:Int)+1)))))<|O<|Ac<|C1 J (fun hc1=>?_) (fun hc1=>?_)
         ·refine Aj<|Ac<|Ao<|Y<|Aa 2 [] [(12,.I x)]<|O<|Ac<|By [0,1,0,0,15,0,32,0,224,31,1023] [pR 0,pR 1,pR 2,pR 3,pR 4,pR 5,pR 6,pR 7,pR 8,pR 9,pR 10] Dn<|At [1] [(84,.ptr (ix ids 1) g1 0 36),(85,.M o.Path),(86,.I x),(87,.I x)]<|Cz fun hs=>A0 (slx0 32 (List.map rU (o.Path.take (Int.toNat x)))) J J (B2 (Aiv (e:=rU) (L:=o.Path) Cn Bj J hs))<|At [1] [(89,.ptr (ix ids 1) g1 0 36),(90,.M o.Path),(91,.I x)]<|Cz fun hs1=>A0 (.M (o.Path.drop (Int.toNat x))) J J (B2 (Jf Cn Bj J hs1))<|At [] [(13,slx0 32 (List.map rU (o.Path.take (Int.toNat x)))),(14,.M (o.Path.drop (Int.toNat x)))]<|Be<|Afr [(2,.I tables),(3,.I slots),(5,.q ids 0 g),(9,.q ids 1 g1),(11,.q ids 2 g2),(12,.I x),(13,.M (o.Path.take (Int.toNat x))),(14,.M (o.Path.drop (Int.toNat x))),(80,.I (wi ((o.Path.length:Int)+1))),(81,.I x),(82,.B (decide (x<(wi ((o.Path.length:Int)+1))))),(84,.ptr (ix ids 1) g1 0 36),(85,.M o.Path),(86,.I x),(87,.I x),(88,.M (o.Path.take (Int.toNat x))),(89,.ptr (ix ids 1) g1 0 36),(90,.M o.Path),(91,.I x),(92,.M (o.Path.drop (Int.toNat x)))] (G4.refl _) (.s (.s (.s (.s (.s (.s (.cons Agp (.s (.s (.s (.s (.s (.s (.s (.s (.cons Agp (.s (.s .s2)))))))))))))))))) J J<|Y<|Aa 5 [2,1] [(98,.M (o.Path.take (Int.toNat x))),(97,.I slots),(96,.I o.Slot),(94,.A (rU r2))] ?_
          refine oc ((X5 r2 o.Slot slots (o.Path.take (Int.toNat x))) _) fun r3 _=>Aa 3 [] [(101,.I r3.2),(100,.A (rU r3.1))]<|Ee (j:=3) (row:=(rU (B0 32 0))) hI J J J J Bj (Hf (n:=32) (e:=(rI .u8)) (E:=(fun x:Int=>(AV.int .u8 x))) (fun _=>J) _).symm ((Ct (fun x=>Bo x) J) _) fun g3=>B8 (D5 (v:=(.A (rU r3.1))) hI J J J Bj J J J (((Ct (fun x=>Bo x) J) _).1) J)<|Ad (.I r3.2)<|O<|Ar ?_
          refine Ac<|Y<|Aa 2 [] [(103,.B (r3.2 != 0))]<|O<|A8 J (fun hc2=>?_) (fun hc2=>?_)
          ·refine Bd J<|Ai<|Aa 2 [] [(81,.I (wi (x+1)))]<|O<|Cc 8<|A3 (Fa (hW (wi (x+1)) _ _ ⟨J,J⟩))
          refine Aj<|Y<|Aa 2 [] [(105,.I 0),(104,.I tables)]<|O<|Cu (π:=Unit) (fun _=>Hl x) (fun _=>fun fr h=>fr=Ag [(2,.I tables),(3,.I slots),(5,.q ids 0 g),(9,.q ids 1 g1),(11,.q ids 2 g2),(80,.I (wi ((o.Path.length:Int)+1))),(81,.I x)]∧h=hp h0 ids [Aq g 32 [rU d],Aq g1 37 [Ak o],Aq g2 32 [rU r2],none,none]) ?_ fun hJ9=>?_
          ·rintro _ fr h ⟨rfl,rfl⟩
           refine Ah (Hl.eq_1 _)<|Ay<|Ai<|Aa 2 [] [(81,.I (wi (x+1)))]<|O<|A3 (Fa (hW (wi (x+1)) _ _ ⟨J,J⟩))
          refine Ao<|B6 [2,3,5,9,11,14,15,80,81,104,105] ?_
          refine Gg (P:=Tryz.prog) (fun x1=>J8 d tables o x r3 x1) ((alt (fun _=>Hl x) (fun r=>.ok (.inr (.inr (r))))):(Unit ⊕ Int)→R (Int ⊕ (Unit ⊕ Int))) (fun x1=>fun fr h=>fr=Ag [(2,.I tables),(3,.I slots),(5,.q ids 0 g),(9,.q ids 1 g1),(11,.q ids 2 g2),(14,.M (o.Path.drop (Int.toNat x))),(15,.q ids 3 g3),(80,.I (wi ((o.Path.length:Int)+1))),(81,.I x),(104,.I tables),(105,.I x1)]∧h=hp h0 ids [Aq g 32 [rU d],Aq g1 37 [Ak o],Aq g2 32 [rU r2],Aq g3 32 [rU r3.1],none]) 0 ?_ ?_
          ·exact⟨J,J⟩
          rintro vW1 hW1 x1 fr h ⟨rfl,rfl⟩
          refine Ah (m':=J8 d tables o x r3 x1) J (Ah (J8.eq_1 _ _ _ _ _ _) ?_)
          refine Y<|Aw (.B (decide (x1<tables)))<|O<|Ac<|C1 J (fun hc3=>?_) (fun hc3=>?_)
          ·refine Aj<|Ac<|Ao<|Y<|Aa 2 [] [(17,.I x1)]<|O<|Y<|Aa 4 [3] [(112,.M (o.Path.drop (Int.toNat x))),(111,.I tables),(110,.I x1),(109,.A (rU r3.1))]<|oc ((X5 r3.1 x1 tables (o.Path.drop (Int.toNat x))) _) fun r4 _=>Aa 3 [] [(115,.I r4.2),(114,.A (rU r4.1))]<|Ee (j:=4) (row:=(rU (B0 32 0))) hI J J J J Bj (Hf (n:=32) (e:=(rI .u8)) (E:=(fun x:Int=>(AV.int .u8 x))) (fun _=>J) _).symm ((Ct (fun x=>Bo x) J) _) fun g4=>B8 (D5 (v:=(.A (rU r4.1))) hI J J J Bj J J J (((Ct (fun x=>Bo x) J) _).1) J)<|Ad (.I r4.2)<|O<|Ar ?_
           refine Y<|Aa 3 [] [(118,.B (r4.2==0))]<|B4 4 118 122 [2,3,5,9,11,14,15,80,81,104,105] (.B ((r4.2==0)&&(r4.1==d))) J ?_ (fun hb17 hJ8=>?_) (fun hb17 hJ8=>?_)
           ·refine O<|A8 J (fun hc4=>?_) (fun hc4=>?_)
            ·refine Y<|Ad (.I 0)<|O<|Ec<|C8<|Ec<|C8<|rt
            refine Aj<|Ay<|Ai<|Aa 2 [] [(105,.I (wi (x1+1)))]<|O<|Cc 16<|A3 (Fa (hW1 (wi (x1+1)) _ _ ⟨J,J⟩))
           ·refine Aa 2 [4,0] [(120,.A (rU d)),(119,.A (rU r4.1))]<|Ch (tj:=118) (.B (r4.1==d)) J J J (Bf (Q6 J J) J (Sq Bj Eg))<|Aw (.B (r4.1==d))<|A5 hJ8 (.r4 (.r4 (.r2 (.r (.cons (Jw hb17) .nil)))))
           refine Aa 4 [] [(122,.B false),(121,.und),(120,.und),(119,.und)]<|A5 hJ8 (.r4 (.r4 (.r2 (.r (.cons (Jy hb17) .nil)))))
          refine Bd J<|Ec<|U9<|Cc 8<|A3 (hJ9 () _ _ ⟨J,J⟩)
         refine Bd J<|Ec<|U9<|Cc 7<|A3 (hJ10 () _ _ ⟨J,J⟩)
        ·refine Aa 5 [] [(64,.B true)]<|Cr (hJ7 true)
        refine Aa 2 [1] [(61,.I o.Cost)]<|oc ((Vp o.Cost) _) fun r1 _=>Aa 2 [] [(64,.B (!r1))]<|Cr (hJ7 (!r1))
       ·refine Aa 5 [] [(58,.B true)]<|A5 hJ6 (.r4 (.cons (Dp hb13) .nil))
       refine Aa 5 [1] [(58,.B (decide (o.Slot≥slots)))]<|A5 hJ6 (.r4 (.cons (Do hb13) .nil))
      ·refine Aa 4 [] [(52,.B true)]<|A5 hJ5 (.r4 (.cons (Dp hb11) .nil))
      refine Aa 4 [1] [(52,.B (decide (o.Slot<0)))]<|A5 hJ5 (.r4 (.cons (Do hb11) .nil))
     ·refine Aa 7 [] [(47,.B true)]<|Cr (hJ4 true)
     refine Aa 4 [1,1] [(44,.I o.Flight),(42,.I o.Airline)]<|oc ((Uc o.Airline o.Flight) _) fun r _=>Aa 2 [] [(47,.B (!r))]<|Cr (hJ4 (!r))
    ·refine Aa 5 [] [(39,.B true)]<|A5 hJ3 (.r4 (.cons (Dp hb7) .nil))
    refine Aa 5 [1] [(39,.B (o.Airline != airline))]<|A5 hJ3 (.r4 (.cons (Do hb7) .nil))
   ·refine Aa 3 [] [(33,.B true)]<|A5 hJ2 (.r4 (.r (.cons (Dp hb5) .nil)))
   refine Aa 3 [] [(33,.B (decide (slots > 8)))]<|A5 hJ2 (.r4 (.r (.cons (Do hb5) .nil)))
  ·refine Aa 3 [] [(29,.B true)]<|A5 hJ1 (.r4 (.r (.cons (Dp hb3) .nil)))
  refine Aa 3 [] [(29,.B (decide (slots<1)))]<|A5 hJ1 (.r4 (.r (.cons (Do hb3) .nil)))
 ·refine Aa 3 [] [(25,.B true)]<|A5 hJ (.r4 (.r (.cons (Dp hb1) .nil)))
 refine Aa 3 [] [(25,.B (decide (tables > 8)))]<|A5 hJ (.r4 (.r (.cons (Do hb1) .nil)))
theorem R2 (c o):CP Tryz.prog 54 [.A (Ae c),.A (Ak o)] (Je c o) (.int .i64):=by
 refine ci 49 3 func54 (Je.eq_1 _ _) fun h0 ids hI hF=>Y<|B5 0 (.A (Ae c)) fun g=>B5 1 (.A (Ak o)) fun g1=>Ad (.I 0)<|O<|Ar ?_
 refine Y<|Aa 4 [0,1] [(11,.I o.Flight),(9,.K c.Flights)]<|oc ((Na c.Flights o.Flight) _) fun i _=>Ad (.I i)<|O<|Ac<|Ac<|Cu (fun x=>L3 c o x) (fun x=>fun fr h=>fr=Ag [(2,.q ids 0 g),(3,.q ids 1 g1),(24,.B x)]∧h=hp h0 ids [Aq g 8 [Ae c],Aq g1 37 [Ak o],none]) ?_ fun hJ=>?_
 ·rintro x fr h ⟨rfl,rfl⟩
  refine Ah (L3.eq_1 _ _ _)<|A8 J (fun hc=>?_) (fun hc=>?_)
  ·refine Y<|Ad (.I 400)<|O<|rt
  refine Aj<|Y<|Aa 2 [0] [(27,.K c.Owners)]<|D8 [2] hI J J (Oi c.Owners _ (ix ids 2) (by exact hI.sub' J J)) J J J J J J (fun v _=>Dt func54 hI) ?_
  rintro r _ _ _ ⟨g2,rfl,rfl⟩
  refine Hx [2] hI J J J ?_
  refine Ew<|Aa 5 [] [(7,.K r.1),(6,.map (ix ids 2) g2)]<|O<|Ar ?_
  refine Ac<|By [0,1,0,0,8,28,63,127,0,256,0,0,2048,7168,0,16384,0,131071,262143] [pR 0,pR 1,pR 2,pR 3,pR 4,pR 8,pR 9,pR 10,pR 11,pR 12,pR 13,pR 14,pR 15,pR 16,pE 5,pR 6,pR 7,pE 17,pR 18] Dn<|At [0,1,1,1] [(31,.ptr (ix ids 0) g 0 5),(32,.M c.Commitments),(33,.K r.1),(34,.q ids 1 g1),(35,.I o.Airline),(39,.q ids 1 g1),(40,.I o.Airline),(41,.map (ix ids 2) g2),(42,.q ids 1 g1),(43,.I o.Airline)]<|A0 (.I (Option.getD (Bv r.2 o.Airline) 0)) J J (Qk (Po (eK:=(fun x:Int=>(AV.I x))) (eV:=(fun x:Int=>(AV.I x))) (zv:=0) (P0 (hI.at J J)) Zu Bi Bi Fq J).1)<|At [0,1] [(45,.ptr (ix ids 0) g 0 2),(46,.I c.Slots),(47,.A (Ak o))]<|H0 ((Na r.1 o.Airline) _) (hpd:=(Af J (Bg (A6 hI J J J F2 J)) (Af J (Bg (A6 hI J J J Bi J)) (Af J (Hs (Nk 0 2 2 Di J Bi J)) (Af J (Qk (Po (eK:=(fun x:Int=>(AV.I x))) (eV:=(fun x:Int=>(AV.I x))) (zv:=0) (P0 (hI.at J J)) Zu Bi Bi Fq J).1) (Af J (Bg (A6 hI J J J Bi J)) (Af J (Hs (Nk 0 0 0 F2 J Bi J)) (Af J Ba (Af J (Bg (A6 hI J J J Bi J)) (Af J (Hs (Nk 0 0 0 F2 J Bi J)) (Hw J (Gu J (Af J (Bg (A6 hI J J J Cn J)) (Af J (Hs (Nk 0 5 5 Di J Cn J)) C3)))))))))))))) fun r1 _=>?_
  refine C6 fun a1 hz1 hx2=>A0 (.cp (rU a1) 0) J J (As (B7 Cn Bj J hz1 hx2))<|At [] [(38,.A (rU a1))]<|H0 ((Aaa a1 o.Airline (Option.getD (Bv r.2 o.Airline) 0) c.Slots o) _) fun r2 _=>?_
  refine At [] [(4,.I r2)]<|Be<|rt
 refine By [0,1,3,7,15,7,63,127,7,263,1023,2047] [pR 0,pR 1,pR 2,pR 3,pR 4,pR 5,pR 6,pR 7,pR 8,pR 9,pR 10,pR 11] Dn<|At [] [(13,.I i),(14,.B (decide (i<0))),(15,.B (decide (i<0)))]<|Eu (fun hb=>?_) (fun hb=>?_)
 ·refine Cx (t:=15) hb J<|At [] [(16,.und),(17,.und),(18,.und),(19,.und),(20,.und),(21,.und),(22,.und),(23,.und),(24,.B true)]<|Be<|A3 (hJ true _ _ ⟨J,J⟩)
 refine Cx (t:=15) hb J<|At [0] [(16,.ptr (ix ids 0) g 0 3),(17,.K c.Owners),(18,.I i)]<|C6 fun a hz hx1=>Gc (tj:=15) (.cp [.I a] 0) J J J J (As (B7 A7 Bi J hz hx1))<|At [1] [(20,.I a),(21,.q ids 1 g1),(22,.I o.Airline),(23,.B (a != o.Airline)),(24,.B (a != o.Airline))]<|Be<|A3 (hJ (a != o.Airline) _ _ ⟨J,J⟩)
end Go.Am

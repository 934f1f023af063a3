/- Written by shrink.py from texts of ours: comments struck, what is not reached left out, names short. -/
import Derived.Shelf.Spec.SlicesInsertGrow
import Derived.Test.YtnoinnijgnfhiaaGreatDoorProg
import Derived.Test.YtnoinnijgnfhiaaGreatDoorU1
import Derived.Test.YtnoinnijgnfhiaaGreatDoorU4
set_option linter.unusedVariables false
set_option linter.unusedSimpArgs false
namespace Go.Proofs
open Go.Shelf Go.RowKit Go.Lib
theorem Jg {P:Program}(w:World)(dT sT ty elem:TypeId)(k b o dLen dCap:Nat)(a:Addr)(sLen sCap:Nat)(cs:List Value)
  (hu:P.underlying dT=some (.slice elem)) (hs:(P.info? elem).map (·.size)=some k) (hn:cs.length=Nat.min sLen dLen * k)
  (hsrc : ∀ j v,cs[j]? = some v→w.cell? (a.add j)=some v) (hc : ∀ j,j<cs.length→(w.cell? ⟨b,o+j,none⟩).isSome=true) (hf : ∀ j,j<cs.length→w.frozen? ⟨b,o+j,none⟩=false) (h1 : ∀ v ∈ cs,v.oneCell'=true) :
  (Builtin.copy_ #[dT,sT] ty #[.slice (some ⟨b,o,none⟩) dLen dCap,.slice (some a) sLen sCap]).run P w=.ok (goInt (Nat.min sLen dLen)) (w.setCells b o cs):=by
 have hl:=run_loadCells_list (P:=P) w a cs hsrc
 have hst:=run_storeCells_cells (P:=P) b o cs 0 w (by simpa using hc) (by simpa using hf) h1
 cases hq:P.info? elem with
 | none=>simp [hq] at hs
 | some i=>
  have hi:i.size=k:=by simpa [hq] using hs
  simp [Builtin.copy_,run_underlying hu,Builtin.lenOf,Builtin.firstCells,sizeOf,typeInfo,hq,hi,← hn,hl,hst]
local instance gwLocal:Am.GW Tryz.prog:={ n:=0,G:=fun _ _=>True,keep:=fun _ _ _=>trivial }
set_option maxHeartbeats 4000000 in
set_option maxRecDepth 100000 in
theorem Tryz.insert91_shift (b off n c i vb voff m vc:Nat)(cs vs:List Value)(w:World)(hi:i<n)(hm:0<m)(hroom:n+m≤c)(hnm:n+m≤9223372036854775807)(hvb:vb≠b)
  (hcl:cs.length=n * 37) (hvl:vs.length=m * 37)
  (hcs : ∀ j v,cs[j]? = some v→w.cell? ⟨b,off+j,none⟩=some v) (hsp : ∀ j,j<(n+m) * 37→(w.cell? ⟨b,off+j,none⟩).isSome=true) (hfz : ∀ j,j<(n+m) * 37→w.frozen? ⟨b,off+j,none⟩=false)
  (hvs : ∀ j v,vs[j]? = some v→w.cell? ⟨vb,voff+j,none⟩=some v) (h1c : ∀ v ∈ cs,v.oneCell'=true) (h1v : ∀ v ∈ vs,v.oneCell'=true)
  (tA tB:TypeId) (kA kB:Nat) (hsa:w.shape? vb=some (tA,kA)) (hsb:w.shape? b=some (tB,kB)) (hkB:kB≠0) (hfa:w.frozen? ⟨vb,voff,none⟩=false) (hfe:w.frozen? ⟨vb,kA,none⟩=false) :
  Calls Tryz.prog 91 #[.slice (some ⟨b,off,none⟩) n c,.int .i64 i,.slice (some ⟨vb,voff,none⟩) m vc] w fun e w'=>
   e=.returned (.slice (some ⟨b,off,none⟩) (n+m) c)∧w'=(w.drew.setCells b (off+(i+m) * 37) (cs.drop (i * 37))).setCells b (off+i * 37) vs:=by
 have t0:=Tryz.underlying0; have a0:=Tryz.isAgg0; have z0:=Tryz.sizeOf0; have v0:=Tryz.zeroValue0; have t3:=Tryz.underlying3; have a3:=Tryz.isAgg3; have z3:=Tryz.sizeOf3; have v3:=Tryz.zeroValue3; have t4:=Tryz.underlying4; have a4:=Tryz.isAgg4; have z4:=Tryz.sizeOf4; have v4:=Tryz.zeroValue4; have t22:=Tryz.underlying33; have a22:=Tryz.isAgg33; have z22:=Tryz.sizeOf33; have v22:=Tryz.zeroValue33
 have z24:=Tryz.sizeOf61
 have u0:=run_underlying Tryz.underlying0; have u3:=run_underlying Tryz.underlying3; have u4:=run_underlying Tryz.underlying4; have u22:=run_underlying Tryz.underlying33
 have hz1:¬ ((m:Int)=0):=by omega
 have hz2:¬ ((i:Int)=(n:Int)):=by omega
 have hsz:(Tryz.prog.info? 61).map (·.size)=some 37:=by kernel_rfl
 have hov : ∀ lb cb,(callFunc 118 #[.slice (some ⟨vb,voff,none⟩) m vc,.slice (some ⟨b,off+(i+m) * 37,none⟩) lb cb]).run Tryz.prog w=.ok (.value (.bool false)) w:=fun lb cb=>by
  rw [run_callFunc_extern Tryz.func118 (by kernel_rfl) (by kernel_rfl) (by kernel_rfl) (e:=Extern.SlicesOverlaps.overlaps #[33,33] #[4]) (by kernel_rfl),
   Lib.run_overlaps_apart w 33 4 61 Tryz.underlying33 37 Tryz.sizeOf61 ⟨vb,voff,none⟩ ⟨b,off+(i+m) * 37,none⟩ m vc lb cb hvb tA tB kA kB hsa hsb hkB hfa hfe]
  rfl
 have hdl:(cs.drop (i * 37)).length=(n - i) * 37:=by rw [List.length_drop,hcl]; omega
 have mixed:Tryz.prog.follows .mixedOrders=true:=by kernel_rfl
 have hw1:IntKind.i64.wrap ((i:Int)+(m:Int))=(i:Int)+(m:Int):=by rw [IntKind.wrap_i64]; omega
 have hb1:(0:Int)≤(i:Int)+(m:Int):=by omega
 have hin:i≤n:=by omega
 have htn:((i:Int)+(m:Int)).toNat=i+m:=by omega
 have hb2:¬ (c=i+m):=by omega
 have hb3:(i:Int)≤(n:Int)+(m:Int):=by omega
 have hb4:¬ (c=i):=by omega
 have hcp1 : ∀ ty dc sc,(Builtin.copy_ #[33,33] ty #[.slice (some ⟨b,off+(i+m) * 37,none⟩) (n+m - (i+m)) dc,.slice (some ⟨b,off+i * 37,none⟩) (n+m - i) sc]).run Tryz.prog w.drew=.ok (goInt ((n - i:Nat):Int)) (w.drew.setCells b (off+(i+m) * 37) (cs.drop (i * 37))):=fun ty dc sc=>by
  have hmin:Nat.min (n+m - i) (n+m - (i+m))=n - i:=by simp only [Nat.min_def]; split <;> omega
  have:=Jg w.drew 33 33 ty 61 37 b (off+(i+m) * 37) (n+m - (i+m)) dc ⟨b,off+i * 37,none⟩ (n+m - i) sc (cs.drop (i * 37)) Tryz.underlying33 hsz (by rw [hdl,hmin])
   (fun j v hj=>by rw [Addr.add_lit,Nat.add_assoc]; exact hcs (i * 37+j) v (by rwa [List.getElem?_drop] at hj))
   (fun j hj=>by rw [Nat.add_assoc]; exact hsp _ (by omega)) (fun j hj=>by rw [Nat.add_assoc]; exact hfz _ (by omega)) (fun v hv=>h1c v (List.mem_of_mem_drop hv))
  rw [hmin] at this
  exact this
 obtain⟨W1,hW1⟩ : ∃ W1,W1=w.drew.setCells b (off+(i+m) * 37) (cs.drop (i * 37)):=⟨_,rfl⟩
 have hsp1 : ∀ k,k<(n+m) * 37→(W1.cell? ⟨b,off+k,none⟩).isSome=true:=fun k hk=>by
  rw [hW1]
  exact isSome_setCells b _ _ _ (fun j hj=>by rw [Nat.add_assoc]; exact hsp _ (by omega)) _ (hsp k hk)
 have hcp2 : ∀ (W:World),(∀ x,W.cell? x=W1.cell? x)→(∀ x,W.frozen? x=W1.frozen? x) → ∀ ty dc,(Builtin.copy_ #[33,33] ty #[.slice (some ⟨b,off+i * 37,none⟩) (n+m - i) dc,.slice (some ⟨vb,voff,none⟩) m vc]).run Tryz.prog W=.ok (goInt m) (W.setCells b (off+i * 37) vs):=fun W hWc hWf ty dc=>by
  have hmin:Nat.min m (n+m - i)=m:=by simp only [Nat.min_def]; split <;> omega
  have:=Jg W 33 33 ty 61 37 b (off+i * 37) (n+m - i) dc ⟨vb,voff,none⟩ m vc vs Tryz.underlying33 hsz (by rw [hvl,hmin])
   (fun j v hj=>by
    rw [Addr.add_lit,hWc,hW1,World.cell?_setCells_out b _ _ _ _ (fun h _=>absurd h hvb)]
    exact hvs j v hj)
   (fun j hj=>by rw [hWc,Nat.add_assoc]; exact hsp1 _ (by omega)) (fun j hj=>by rw [hWf,hW1,World.frozen?_setCells,Nat.add_assoc]; exact hfz _ (by omega)) h1v
  rw [hmin] at this
  exact this
 rw [← hW1] at hcp1
 have nt:Tryz.f91.ntmps=95:=by kernel_rfl
 go_enter Tryz.func91,nt
 go_wp2_with (simp only [hov])
 go_region_law_o (refine step_copy_runI rfl _ _ 33 33 rfl _ _ (by simp [Act.eval,Act.put]) (by simp [Act.eval,Act.put]) (hcp1 _ _ _) ?_)
 go_wp2_with (at_builtin; refine wpList_copy_runI _ rfl _ _ 33 33 rfl _ _ rfl rfl (hcp2 _ (fun _=>rfl) (fun _=>rfl) _ _) ?_)
 go_ret
 first | exact⟨rfl,rfl⟩ | exact⟨rfl,by rw [hW1]⟩
def Tryz.zero61:Value:=.agg #[.int .i64 0,.int .i64 0,.int .i64 0,.int .i64 0,.int .u8 0,.int .u8 0,.int .u8 0,.int .u8 0,.int .u8 0,.int .u8 0,.int .u8 0,.int .u8 0,.int .u8 0,.int .u8 0,.int .u8 0,.int .u8 0,.int .u8 0,.int .u8 0,.int .u8 0,.int .u8 0,.int .u8 0,.int .u8 0,.int .u8 0,.int .u8 0,.int .u8 0,.int .u8 0,.int .u8 0,.int .u8 0,.int .u8 0,.int .u8 0,.int .u8 0,.int .u8 0,.int .u8 0,.int .u8 0,.int .u8 0,.int .u8 0,.slice none 0 0]
theorem Tryz.info61 : ∃ i,Tryz.prog.info? 61=some i∧i.zero=some Tryz.zero61∧i.size=37∧i.bytes=88:=by
 have h:(Tryz.prog.info? 61).map (fun i=>(i.zero,i.size,i.bytes))=some (some (.agg #[.int .i64 0,.int .i64 0,.int .i64 0,.int .i64 0,.int .u8 0,.int .u8 0,.int .u8 0,.int .u8 0,.int .u8 0,.int .u8 0,.int .u8 0,.int .u8 0,.int .u8 0,.int .u8 0,.int .u8 0,.int .u8 0,.int .u8 0,.int .u8 0,.int .u8 0,.int .u8 0,.int .u8 0,.int .u8 0,.int .u8 0,.int .u8 0,.int .u8 0,.int .u8 0,.int .u8 0,.int .u8 0,.int .u8 0,.int .u8 0,.int .u8 0,.int .u8 0,.int .u8 0,.int .u8 0,.int .u8 0,.int .u8 0,.slice none 0 0]),37,88):=by kernel_rfl
 obtain⟨i0,hi0,hz0,hzs,hzb⟩:=info_parts h
 exact⟨i0,hi0,hz0,hzs,hzb⟩
set_option maxHeartbeats 4000000 in
set_option maxRecDepth 100000 in
theorem Tryz.insert91_end_room (b off n c vb voff m vc:Nat)(vs:List Value)(w:World)(hm:0<m)(hroom:n+m≤c)(hnm:n+m≤9223372036854775807)
  (hvl:vs.length=m * 37) (hsp : ∀ j,j<m * 37→(w.cell? ⟨b,off+n * 37+j,none⟩).isSome=true) (hfz : ∀ j,j<m * 37→w.frozen? ⟨b,off+n * 37+j,none⟩=false)
  (hvs : ∀ j v,vs[j]? = some v→w.cell? ⟨vb,voff+j,none⟩=some v) (h1v : ∀ v ∈ vs,v.oneCell'=true) :
  Calls Tryz.prog 91 #[.slice (some ⟨b,off,none⟩) n c,.int .i64 n,.slice (some ⟨vb,voff,none⟩) m vc] w fun e w'=>
   e=.returned (.slice (some ⟨b,off,none⟩) (n+m) c)∧w'=w.setCells b (off+n * 37) vs:=by
 have t0:=Tryz.underlying0; have a0:=Tryz.isAgg0; have z0:=Tryz.sizeOf0; have v0:=Tryz.zeroValue0; have t3:=Tryz.underlying3; have a3:=Tryz.isAgg3; have z3:=Tryz.sizeOf3; have v3:=Tryz.zeroValue3; have t4:=Tryz.underlying4; have a4:=Tryz.isAgg4; have z4:=Tryz.sizeOf4; have v4:=Tryz.zeroValue4; have t22:=Tryz.underlying33; have a22:=Tryz.isAgg33; have z22:=Tryz.sizeOf33; have v22:=Tryz.zeroValue33
 have z24:=Tryz.sizeOf61
 have u0:=run_underlying Tryz.underlying0; have u3:=run_underlying Tryz.underlying3; have u4:=run_underlying Tryz.underlying4; have u22:=run_underlying Tryz.underlying33
 have mixed:Tryz.prog.follows .mixedOrders=true:=by kernel_rfl
 have hz1:¬ ((m:Int)=0):=by omega
 obtain⟨i0,hi0,hz0,hzs,hzb⟩:=Tryz.info61
 have hrun : ∀ ty,(Builtin.append_ #[33,33] ty #[.slice (some ⟨b,off,none⟩) n c,.slice (some ⟨vb,voff,none⟩) m vc]).run Tryz.prog w=.ok (.slice (some ⟨b,off,none⟩) (n+m) c) (w.setCells b (off+n * 37) vs):=fun ty=>by
  rw [Am.run_app_fits (news:=vs) Tryz.underlying33 Tryz.underlying33 (.inl ⟨_,rfl⟩) hi0 (fun w'=>rfl) (by rw [hzs]; exact run_firstCells_some w 37 m ⟨vb,voff,none⟩ m vc vs (by omega) (fun j u hj=>by rw [Addr.add_lit]; exact hvs j u hj)) hroom]
  have hst:=run_storeCells_cells (P:=Tryz.prog) b (off+n * 37) vs 0 w (fun j hj=>by rw [Nat.add_zero]; exact hsp j (by omega)) (fun j hj=>by rw [Nat.add_zero]; exact hfz j (by omega)) h1v
  simp only [Sem.run_bind,Addr.add_lit,hzs,hst,Nat.add_zero,Result.andThen_ok,Sem.run_pure]
 have nt:Tryz.f91.ntmps=95:=by kernel_rfl
 clear hsp hfz hvs h1v
 go_enter Tryz.func91,nt
 go_wp2_with (at_builtin; refine Lib.wpList_append_run _ rfl _ _ _ _ rfl _ _ rfl rfl _ _ (hrun _) ?_)
 go_ret
 exact⟨rfl,rfl⟩
set_option maxHeartbeats 4000000 in
set_option maxRecDepth 100000 in
theorem Tryz.insert91_end_grow0 (base:Option Addr)(n c vb voff m vc:Nat)(cs vs:List Value)(w:World)(hm:0<m)(hnc:n≤c)(hroom:c<n+m)(hbig:(n+m) * 88≤140737488355328)
  (hcl:cs.length=n * 37) (hvl:vs.length=m * 37) (hnil:base=none→n=0)
  (hcs : ∀ a,base=some a → ∀ j v,cs[j]? = some v→w.cell? (a.add j)=some v)
  (hvs : ∀ j v,vs[j]? = some v→w.cell? ⟨vb,voff+j,none⟩=some v) (h1v : ∀ v ∈ vs,v.oneCell'=true) :
  Calls Tryz.prog 91 #[.slice base n c,.int .i64 n,.slice (some ⟨vb,voff,none⟩) m vc] w fun e w'=>
   e=.returned (.slice (some ⟨w.heap.size,0,none⟩) (n+m) (grownCap w (n+m) c 61)) ∧
   w'=w.drew.alloc (.cells (cs.toArray++vs.toArray++Builtin.zeroCells Tryz.zero61.cells (grownCap w (n+m) c 61 - (n+m))) 61):=by
 have t0:=Tryz.underlying0; have a0:=Tryz.isAgg0; have z0:=Tryz.sizeOf0; have v0:=Tryz.zeroValue0; have t3:=Tryz.underlying3; have a3:=Tryz.isAgg3; have z3:=Tryz.sizeOf3; have v3:=Tryz.zeroValue3; have t4:=Tryz.underlying4; have a4:=Tryz.isAgg4; have z4:=Tryz.sizeOf4; have v4:=Tryz.zeroValue4; have t22:=Tryz.underlying33; have a22:=Tryz.isAgg33; have z22:=Tryz.sizeOf33; have v22:=Tryz.zeroValue33
 have z24:=Tryz.sizeOf61
 have u0:=run_underlying Tryz.underlying0; have u3:=run_underlying Tryz.underlying3; have u4:=run_underlying Tryz.underlying4; have u22:=run_underlying Tryz.underlying33
 have mixed:Tryz.prog.follows .mixedOrders=true:=by kernel_rfl
 obtain⟨i0,hi0,hz0,hzs,hzb⟩:=Tryz.info61
 have hz1:¬ ((m:Int)=0):=by omega
 have hold : ∀ w':World,w'.heap=w.heap→(Builtin.firstCells i0.size n (.slice base n c)).run Tryz.prog w'=.ok cs.toArray w':=fun w' hw'=>by
  rw [hzs]
  cases base with
  | none=>
   have h0:=hnil rfl
   subst h0
   rw [List.length_eq_zero_iff.1 (by omega:cs.length=0)]
   exact run_firstCells_none w' 37 0 0 c
  | some a=>exact run_firstCells_some w' 37 n a n c cs (by omega) (fun j v hj=>by have:=hcs a rfl j v hj; unfold World.cell? at this ⊢; rw [hw']; exact this)
 have hrun : ∀ ty,(Builtin.append_ #[33,33] ty #[.slice base n c,.slice (some ⟨vb,voff,none⟩) m vc]).run Tryz.prog w=.ok (.slice (some ⟨w.heap.size,0,none⟩) (n+m) (grownCap w (n+m) c 61)) (w.drew.alloc (.cells (cs.toArray++vs.toArray++Builtin.zeroCells Tryz.zero61.cells (grownCap w (n+m) c 61 - (n+m))) 61)):=fun ty=>
  Am.run_app_grows (olds:=cs) (news:=vs) Tryz.underlying33 Tryz.underlying33 (.inl ⟨_,rfl⟩) hi0 hz0 (fun w'=>rfl)
   (fun w' hw'=>by rw [hzs]; exact run_firstCells_some w' 37 m ⟨vb,voff,none⟩ m vc vs (by omega) (fun j u hj=>by rw [Addr.add_lit]; have:=hvs j u hj; unfold World.cell? at this ⊢; rw [hw']; exact this)) hold hroom (by rw [hzb]; exact hbig) (by rw [hzb]; decide)
 obtain⟨ROW,hROW⟩ : ∃ ROW,ROW=cs.toArray++vs.toArray++Builtin.zeroCells Tryz.zero61.cells (grownCap w (n+m) c 61 - (n+m)):=⟨_,rfl⟩
 obtain⟨G,hG⟩ : ∃ G,G=grownCap w (n+m) c 61:=⟨_,rfl⟩
 simp only [← hROW,← hG]
 simp only [← hROW,← hG] at hrun
 have nt:Tryz.f91.ntmps=95:=by kernel_rfl
 clear hcs hvs h1v hold hROW hG
 go_enter Tryz.func91,nt
 cases base with
 | none=>
  have h0:=hnil rfl
  subst h0
  go_wp2_with (at_builtin; refine Lib.wpList_append_run _ rfl _ _ _ _ rfl _ _ rfl rfl _ _ (hrun _) ?_)
  go_ret
  exact⟨rfl,rfl⟩
 | some a=>
  obtain⟨ab,ao,asp⟩:=a
  go_wp2_with (at_builtin; refine Lib.wpList_append_run _ rfl _ _ _ _ rfl _ _ rfl rfl _ _ (hrun _) ?_)
  all_goals (go_ret; exact⟨rfl,rfl⟩)
set_option maxHeartbeats 4000000 in
set_option maxRecDepth 100000 in
theorem Tryz.insert91_grow (b off n c i vb voff m vc:Nat)(cs vs:List Value)(w:World)(hi:i<n)(hm:0<m)(hnc:n≤c)(hroom:c<n+m)(hbig:(n+m) * 88≤140737488355328)
  (hcl:cs.length=n * 37) (hvl:vs.length=m * 37)
  (hcs : ∀ j v,cs[j]? = some v→w.cell? ⟨b,off+j,none⟩=some v)
  (hvs : ∀ j v,vs[j]? = some v→w.cell? ⟨vb,voff+j,none⟩=some v) (h1c : ∀ v ∈ cs,v.oneCell'=true) (h1v : ∀ v ∈ vs,v.oneCell'=true) :
  Calls Tryz.prog 91 #[.slice (some ⟨b,off,none⟩) n c,.int .i64 i,.slice (some ⟨vb,voff,none⟩) m vc] w fun e w'=>
   e=.returned (.slice (some ⟨w.heap.size,0,none⟩) (n+m) (grownCap w (n+m) c 61)) ∧
   w'=(((w.alloc (.cells ((cs.take (i * 37)).toArray++Builtin.zeroCells Tryz.zero61.cells (n+m - i)++Builtin.zeroCells Tryz.zero61.cells (grownCap w (n+m) c 61 - (n+m))) 61)).drew.setCells w.heap.size (i * 37) vs).drew).setCells w.heap.size ((i+m) * 37) (cs.drop (i * 37)):=by
 have t0:=Tryz.underlying0; have a0:=Tryz.isAgg0; have z0:=Tryz.sizeOf0; have v0:=Tryz.zeroValue0; have t3:=Tryz.underlying3; have a3:=Tryz.isAgg3; have z3:=Tryz.sizeOf3; have v3:=Tryz.zeroValue3; have t4:=Tryz.underlying4; have a4:=Tryz.isAgg4; have z4:=Tryz.sizeOf4; have v4:=Tryz.zeroValue4; have t22:=Tryz.underlying33; have a22:=Tryz.isAgg33; have z22:=Tryz.sizeOf33; have v22:=Tryz.zeroValue33
 have z24:=Tryz.sizeOf61
 have u0:=run_underlying Tryz.underlying0; have u3:=run_underlying Tryz.underlying3; have u4:=run_underlying Tryz.underlying4; have u22:=run_underlying Tryz.underlying33
 have mixed:Tryz.prog.follows .mixedOrders=true:=by kernel_rfl
 obtain⟨i0,hi0,hz0,hzs,hzb⟩:=Tryz.info61
 have hz1:¬ ((m:Int)=0):=by omega
 have hz2:¬ ((i:Int)=(n:Int)):=by omega
 have hz3:(c:Int)<(n:Int)+(m:Int):=by omega
 have hsz:(Tryz.prog.info? 61).map (·.size)=some 37:=by rw [hi0]; simp [hzs]
 have hbw:b<w.heap.size:=block_lt_of_cell (hcs 0 _ (List.getElem?_eq_getElem (by omega)))
 have hvw:vb<w.heap.size:=block_lt_of_cell (hvs 0 _ (List.getElem?_eq_getElem (by omega)))
 have hkk:(n:Int)+(m:Int) - (i:Int)=((n+m - i:Nat):Int):=by omega
 have hik:i+(n+m - i)=n+m:=by omega
 have hold:(Builtin.firstCells i0.size i (.slice (some ⟨b,off,none⟩) i c)).run Tryz.prog w.drew=.ok (cs.take (i * 37)).toArray w.drew:=by
  rw [hzs]
  exact run_firstCells_some w.drew 37 i ⟨b,off,none⟩ i c (cs.take (i * 37)) (by rw [List.length_take]; omega) (fun j v hj=>by
   rw [Addr.add_lit]
   rw [List.getElem?_take] at hj
   split at hj
   ·exact hcs j v hj
   ·cases hj)
 have hrz : ∀ ty,(Builtin.append_ #[33,3] ty #[.slice (some ⟨b,off,none⟩) i c,.int .i64 ((n:Int)+(m:Int) - (i:Int))]).run Tryz.prog w =
   .ok (.slice (some ⟨w.heap.size,0,none⟩) (n+m) (grownCap w (n+m) c 61)) (w.drew.alloc (.cells ((cs.take (i * 37)).toArray++Builtin.zeroCells Tryz.zero61.cells (n+m - i)++Builtin.zeroCells Tryz.zero61.cells (grownCap w (n+m) c 61 - (n+m))) 61)):=fun ty=>by
  have h:=Lib.run_append_grow_zeros w 33 3 ty 61 i0 _ .i64 .i64 Tryz.underlying33 Tryz.underlying3 hi0 hz0 (some ⟨b,off,none⟩) i c (cs.take (i * 37)) hold (n+m - i) (by omega) (by omega) (by omega) (by omega) (by rw [hzb]; omega) (by rw [hzb,hik]; exact growslice_fits hroom hbig)
  rw [hik] at h
  rw [hkk]
  exact h
 obtain⟨G,hG⟩ : ∃ G,G=grownCap w (n+m) c 61:=⟨_,rfl⟩
 obtain⟨ROW,hROW⟩ : ∃ ROW:Array Value,ROW=(cs.take (i * 37)).toArray++Builtin.zeroCells Tryz.zero61.cells (n+m - i)++Builtin.zeroCells Tryz.zero61.cells (G - (n+m)):=⟨_,rfl⟩
 rw [← hG] at hrz ⊢
 rw [← hROW] at hrz ⊢
 have hRl:(n+m) * 37≤ROW.size:=by
  rw [hROW]
  simp only [Array.size_append,Am.size_zc,List.size_toArray,List.length_take,show Tryz.zero61.cells.size=37 from rfl]
  omega
 obtain⟨W1,hW1⟩ : ∃ W1,W1=w.drew.alloc (.cells ROW 61):=⟨_,rfl⟩
 rw [← hW1] at hrz
 have hN : ∀ j,j<(n+m) * 37→(W1.cell? ⟨w.heap.size,j,none⟩).isSome=true:=fun j hj=>by
  rw [hW1,World.cell?_alloc_at (w:=w.drew) ROW _ w.heap.size j rfl,Array.getElem?_eq_getElem (by omega)]; rfl
 have hNf : ∀ j,W1.frozen? ⟨w.heap.size,j,none⟩=false:=fun j=>by rw [hW1]; exact World.frozen?_alloc_at (w:=w.drew) ROW _ w.heap.size j rfl
 have hOb : ∀ j v,w.cell? ⟨b,j,none⟩=some v→W1.cell? ⟨b,j,none⟩=some v:=fun j v h=>by rw [hW1,World.cell?_alloc_past (w:=w.drew) _ b j hbw]; exact h
 have hOv : ∀ j v,w.cell? ⟨vb,j,none⟩=some v→W1.cell? ⟨vb,j,none⟩=some v:=fun j v h=>by rw [hW1,World.cell?_alloc_past (w:=w.drew) _ vb j hvw]; exact h
 have hcpA : ∀ (W:World),(∀ x,W.cell? x=W1.cell? x)→(∀ x,W.frozen? x=W1.frozen? x) → ∀ ty dc,(Builtin.copy_ #[33,33] ty #[.slice (some ⟨w.heap.size,i * 37,none⟩) (n+m - i) dc,.slice (some ⟨vb,voff,none⟩) m vc]).run Tryz.prog W=.ok (goInt m) (W.setCells w.heap.size (i * 37) vs):=fun W hWc hWf ty dc=>by
  have hmin:Nat.min m (n+m - i)=m:=by simp only [Nat.min_def]; split <;> omega
  have:=Jg W 33 33 ty 61 37 w.heap.size (i * 37) (n+m - i) dc ⟨vb,voff,none⟩ m vc vs Tryz.underlying33 hsz (by rw [hvl,hmin])
   (fun j v hj=>by rw [Addr.add_lit,hWc]; exact hOv _ v (hvs j v hj))
   (fun j hj=>by rw [hWc]; exact hN _ (by omega)) (fun j hj=>by rw [hWf]; exact hNf _) h1v
  rw [hmin] at this
  exact this
 have hGn:n+m≤G:=by rw [hG]; exact grownCap_ge w _ _ _
 have hG63:G≤9223372036854775807:=by
  have:=grownCap_le_maxLen w (n+m) c 61 (by unfold maxLen; omega)
  rw [← hG] at this
  unfold maxLen at this
  omega
 have hGi:¬ (G=i):=by omega
 have hGim:¬ (G=i+m):=by omega
 have hci:¬ (c=i):=by omega
 have hbN:b≠w.heap.size:=by omega
 have hdl:(cs.drop (i * 37)).length=(n - i) * 37:=by rw [List.length_drop,hcl]; omega
 have hcpB : ∀ (W:World),(∀ x,W.cell? x=(W1.setCells w.heap.size (i * 37) vs).cell? x)→(∀ x,W.frozen? x=(W1.setCells w.heap.size (i * 37) vs).frozen? x) → ∀ ty dc sc,(Builtin.copy_ #[33,33] ty #[.slice (some ⟨w.heap.size,(i+m) * 37,none⟩) (n+m - (i+m)) dc,.slice (some ⟨b,off+i * 37,none⟩) (n - i) sc]).run Tryz.prog W=.ok (goInt ((n - i:Nat):Int)) (W.setCells w.heap.size ((i+m) * 37) (cs.drop (i * 37))):=fun W hWc hWf ty dc sc=>by
  have hmin:Nat.min (n - i) (n+m - (i+m))=n - i:=by simp only [Nat.min_def]; split <;> omega
  have:=Jg W 33 33 ty 61 37 w.heap.size ((i+m) * 37) (n+m - (i+m)) dc ⟨b,off+i * 37,none⟩ (n - i) sc (cs.drop (i * 37)) Tryz.underlying33 hsz (by rw [hdl,hmin])
   (fun j v hj=>by
    rw [Addr.add_lit,hWc,World.cell?_setCells_out _ _ _ _ _ (fun h _=>absurd h hbN),Nat.add_assoc]
    exact hOb _ v (hcs (i * 37+j) v (by rwa [List.getElem?_drop] at hj)))
   (fun j hj=>by rw [hWc]; exact isSome_setCells _ _ _ _ (fun t ht=>hN _ (by omega)) _ (hN _ (by omega)))
   (fun j hj=>by rw [hWf,World.frozen?_setCells]; exact hNf _) (fun v hv=>h1c v (List.mem_of_mem_drop hv))
  rw [hmin] at this
  exact this
 subst hW1
 have hE1 : ∀ x,((w.alloc (.cells ROW 61)).drew).cell? x=(w.drew.alloc (.cells ROW 61)).cell? x:=fun x=>rfl
 have hE2 : ∀ x,((w.alloc (.cells ROW 61)).drew).frozen? x=(w.drew.alloc (.cells ROW 61)).frozen? x:=fun x=>rfl
 have hF1 : ∀ x,(((w.alloc (.cells ROW 61)).drew.setCells w.heap.size (i * 37) vs).drew).cell? x=((w.drew.alloc (.cells ROW 61)).setCells w.heap.size (i * 37) vs).cell? x:=fun x=>rfl
 have hF2 : ∀ x,(((w.alloc (.cells ROW 61)).drew.setCells w.heap.size (i * 37) vs).drew).frozen? x=((w.drew.alloc (.cells ROW 61)).setCells w.heap.size (i * 37) vs).frozen? x:=fun x=>rfl
 have hw1:IntKind.i64.wrap ((i:Int)+(m:Int))=(i:Int)+(m:Int):=by rw [IntKind.wrap_i64]; omega
 have hb1:(0:Int)≤(i:Int)+(m:Int):=by omega
 have hin:i≤n:=by omega
 have htn:((i:Int)+(m:Int)).toNat=i+m:=by omega
 have hb3:(i:Int)≤(n:Int):=by omega
 have nt:Tryz.f91.ntmps=95:=by kernel_rfl
 clear hkk hik hold hROW hG hRl
 go_enter Tryz.func91,nt
 go_wp2_with (first
  | (at_builtin; refine Lib.wpList_append_run _ rfl _ _ _ _ rfl _ _ rfl rfl _ _ (hrz _) ?_)
  | (at_builtin; refine wpList_copy_runI _ rfl _ _ 33 33 rfl _ _ rfl rfl (hcpA _ hE1 hE2 _ _) ?_)
  | (at_builtin; refine wpList_copy_runI _ rfl _ _ 33 33 rfl _ _ rfl rfl (hcpB _ (fun _=>rfl) (fun _=>rfl) _ _ _) ?_))
 go_region_law_o (refine step_copy_runI rfl _ _ 33 33 rfl (.slice (some ⟨w.heap.size,(i+m) * 37,none⟩) (n+m - (i+m)) (G - (i+m))) (.slice (some ⟨b,off+i * 37,none⟩) (n - i) (c - i)) (by simp [Act.eval,Act.put]) (by simp [Act.eval,Act.put]) (hcpB _ hF1 hF2 3 (G - (i+m)) (c - i)) ?_)
 go_wp2
 go_ret
 exact⟨rfl,rfl⟩
set_option maxHeartbeats 4000000 in
set_option maxRecDepth 100000 in
theorem Tryz.insert98_shift (b off n c i vb voff m vc:Nat)(cs vs:List Value)(w:World)(hi:i<n)(hm:0<m)(hroom:n+m≤c)(hnm:n+m≤9223372036854775807)(hvb:vb≠b)
  (hcl:cs.length=n * 5) (hvl:vs.length=m * 5)
  (hcs : ∀ j v,cs[j]? = some v→w.cell? ⟨b,off+j,none⟩=some v) (hsp : ∀ j,j<(n+m) * 5→(w.cell? ⟨b,off+j,none⟩).isSome=true) (hfz : ∀ j,j<(n+m) * 5→w.frozen? ⟨b,off+j,none⟩=false)
  (hvs : ∀ j v,vs[j]? = some v→w.cell? ⟨vb,voff+j,none⟩=some v) (h1c : ∀ v ∈ cs,v.oneCell'=true) (h1v : ∀ v ∈ vs,v.oneCell'=true)
  (tA tB:TypeId) (kA kB:Nat) (hsa:w.shape? vb=some (tA,kA)) (hsb:w.shape? b=some (tB,kB)) (hkB:kB≠0) (hfa:w.frozen? ⟨vb,voff,none⟩=false) (hfe:w.frozen? ⟨vb,kA,none⟩=false) :
  Calls Tryz.prog 98 #[.slice (some ⟨b,off,none⟩) n c,.int .i64 i,.slice (some ⟨vb,voff,none⟩) m vc] w fun e w'=>
   e=.returned (.slice (some ⟨b,off,none⟩) (n+m) c)∧w'=(w.drew.setCells b (off+(i+m) * 5) (cs.drop (i * 5))).setCells b (off+i * 5) vs:=by
 have t0:=Tryz.underlying0; have a0:=Tryz.isAgg0; have z0:=Tryz.sizeOf0; have v0:=Tryz.zeroValue0; have t3:=Tryz.underlying3; have a3:=Tryz.isAgg3; have z3:=Tryz.sizeOf3; have v3:=Tryz.zeroValue3; have t4:=Tryz.underlying4; have a4:=Tryz.isAgg4; have z4:=Tryz.sizeOf4; have v4:=Tryz.zeroValue4; have t22:=Tryz.underlying74; have a22:=Tryz.isAgg74; have z22:=Tryz.sizeOf74; have v22:=Tryz.zeroValue74
 have z24:=Tryz.sizeOf86
 have u0:=run_underlying Tryz.underlying0; have u3:=run_underlying Tryz.underlying3; have u4:=run_underlying Tryz.underlying4; have u22:=run_underlying Tryz.underlying74
 have hz1:¬ ((m:Int)=0):=by omega
 have hz2:¬ ((i:Int)=(n:Int)):=by omega
 have hsz:(Tryz.prog.info? 86).map (·.size)=some 5:=by kernel_rfl
 have hov : ∀ lb cb,(callFunc 125 #[.slice (some ⟨vb,voff,none⟩) m vc,.slice (some ⟨b,off+(i+m) * 5,none⟩) lb cb]).run Tryz.prog w=.ok (.value (.bool false)) w:=fun lb cb=>by
  rw [run_callFunc_extern Tryz.func125 (by kernel_rfl) (by kernel_rfl) (by kernel_rfl) (e:=Extern.SlicesOverlaps.overlaps #[74,74] #[4]) (by kernel_rfl),
   Lib.run_overlaps_apart w 74 4 86 Tryz.underlying74 5 Tryz.sizeOf86 ⟨vb,voff,none⟩ ⟨b,off+(i+m) * 5,none⟩ m vc lb cb hvb tA tB kA kB hsa hsb hkB hfa hfe]
  rfl
 have hdl:(cs.drop (i * 5)).length=(n - i) * 5:=by rw [List.length_drop,hcl]; omega
 have mixed:Tryz.prog.follows .mixedOrders=true:=by kernel_rfl
 have hw1:IntKind.i64.wrap ((i:Int)+(m:Int))=(i:Int)+(m:Int):=by rw [IntKind.wrap_i64]; omega
 have hb1:(0:Int)≤(i:Int)+(m:Int):=by omega
 have hin:i≤n:=by omega
 have htn:((i:Int)+(m:Int)).toNat=i+m:=by omega
 have hb2:¬ (c=i+m):=by omega
 have hb3:(i:Int)≤(n:Int)+(m:Int):=by omega
 have hb4:¬ (c=i):=by omega
 have hcp1 : ∀ ty dc sc,(Builtin.copy_ #[74,74] ty #[.slice (some ⟨b,off+(i+m) * 5,none⟩) (n+m - (i+m)) dc,.slice (some ⟨b,off+i * 5,none⟩) (n+m - i) sc]).run Tryz.prog w.drew=.ok (goInt ((n - i:Nat):Int)) (w.drew.setCells b (off+(i+m) * 5) (cs.drop (i * 5))):=fun ty dc sc=>by
  have hmin:Nat.min (n+m - i) (n+m - (i+m))=n - i:=by simp only [Nat.min_def]; split <;> omega
  have:=Jg w.drew 74 74 ty 86 5 b (off+(i+m) * 5) (n+m - (i+m)) dc ⟨b,off+i * 5,none⟩ (n+m - i) sc (cs.drop (i * 5)) Tryz.underlying74 hsz (by rw [hdl,hmin])
   (fun j v hj=>by rw [Addr.add_lit,Nat.add_assoc]; exact hcs (i * 5+j) v (by rwa [List.getElem?_drop] at hj))
   (fun j hj=>by rw [Nat.add_assoc]; exact hsp _ (by omega)) (fun j hj=>by rw [Nat.add_assoc]; exact hfz _ (by omega)) (fun v hv=>h1c v (List.mem_of_mem_drop hv))
  rw [hmin] at this
  exact this
 obtain⟨W1,hW1⟩ : ∃ W1,W1=w.drew.setCells b (off+(i+m) * 5) (cs.drop (i * 5)):=⟨_,rfl⟩
 have hsp1 : ∀ k,k<(n+m) * 5→(W1.cell? ⟨b,off+k,none⟩).isSome=true:=fun k hk=>by
  rw [hW1]
  exact isSome_setCells b _ _ _ (fun j hj=>by rw [Nat.add_assoc]; exact hsp _ (by omega)) _ (hsp k hk)
 have hcp2 : ∀ (W:World),(∀ x,W.cell? x=W1.cell? x)→(∀ x,W.frozen? x=W1.frozen? x) → ∀ ty dc,(Builtin.copy_ #[74,74] ty #[.slice (some ⟨b,off+i * 5,none⟩) (n+m - i) dc,.slice (some ⟨vb,voff,none⟩) m vc]).run Tryz.prog W=.ok (goInt m) (W.setCells b (off+i * 5) vs):=fun W hWc hWf ty dc=>by
  have hmin:Nat.min m (n+m - i)=m:=by simp only [Nat.min_def]; split <;> omega
  have:=Jg W 74 74 ty 86 5 b (off+i * 5) (n+m - i) dc ⟨vb,voff,none⟩ m vc vs Tryz.underlying74 hsz (by rw [hvl,hmin])
   (fun j v hj=>by
    rw [Addr.add_lit,hWc,hW1,World.cell?_setCells_out b _ _ _ _ (fun h _=>absurd h hvb)]
    exact hvs j v hj)
   (fun j hj=>by rw [hWc,Nat.add_assoc]; exact hsp1 _ (by omega)) (fun j hj=>by rw [hWf,hW1,World.frozen?_setCells,Nat.add_assoc]; exact hfz _ (by omega)) h1v
  rw [hmin] at this
  exact this
 rw [← hW1] at hcp1
 have nt:Tryz.f98.ntmps=95:=by kernel_rfl
 go_enter Tryz.func98,nt
 go_wp2_with (simp only [hov])
 go_region_law_o (refine step_copy_runI rfl _ _ 74 74 rfl _ _ (by simp [Act.eval,Act.put]) (by simp [Act.eval,Act.put]) (hcp1 _ _ _) ?_)
 go_wp2_with (at_builtin; refine wpList_copy_runI _ rfl _ _ 74 74 rfl _ _ rfl rfl (hcp2 _ (fun _=>rfl) (fun _=>rfl) _ _) ?_)
 go_ret
 first | exact⟨rfl,rfl⟩ | exact⟨rfl,by rw [hW1]⟩
def Tryz.zero86:Value:=.agg #[.int .i64 0,.int .i64 0,.int .i64 0,.int .i64 0,.bool false]
theorem Tryz.info86 : ∃ i,Tryz.prog.info? 86=some i∧i.zero=some Tryz.zero86∧i.size=5∧i.bytes=40:=by
 have h:(Tryz.prog.info? 86).map (fun i=>(i.zero,i.size,i.bytes))=some (some (.agg #[.int .i64 0,.int .i64 0,.int .i64 0,.int .i64 0,.bool false]),5,40):=by kernel_rfl
 obtain⟨i0,hi0,hz0,hzs,hzb⟩:=info_parts h
 exact⟨i0,hi0,hz0,hzs,hzb⟩
set_option maxHeartbeats 4000000 in
set_option maxRecDepth 100000 in
theorem Tryz.insert98_end_room (b off n c vb voff m vc:Nat)(vs:List Value)(w:World)(hm:0<m)(hroom:n+m≤c)(hnm:n+m≤9223372036854775807)
  (hvl:vs.length=m * 5) (hsp : ∀ j,j<m * 5→(w.cell? ⟨b,off+n * 5+j,none⟩).isSome=true) (hfz : ∀ j,j<m * 5→w.frozen? ⟨b,off+n * 5+j,none⟩=false)
  (hvs : ∀ j v,vs[j]? = some v→w.cell? ⟨vb,voff+j,none⟩=some v) (h1v : ∀ v ∈ vs,v.oneCell'=true) :
  Calls Tryz.prog 98 #[.slice (some ⟨b,off,none⟩) n c,.int .i64 n,.slice (some ⟨vb,voff,none⟩) m vc] w fun e w'=>
   e=.returned (.slice (some ⟨b,off,none⟩) (n+m) c)∧w'=w.setCells b (off+n * 5) vs:=by
 have t0:=Tryz.underlying0; have a0:=Tryz.isAgg0; have z0:=Tryz.sizeOf0; have v0:=Tryz.zeroValue0; have t3:=Tryz.underlying3; have a3:=Tryz.isAgg3; have z3:=Tryz.sizeOf3; have v3:=Tryz.zeroValue3; have t4:=Tryz.underlying4; have a4:=Tryz.isAgg4; have z4:=Tryz.sizeOf4; have v4:=Tryz.zeroValue4; have t22:=Tryz.underlying74; have a22:=Tryz.isAgg74; have z22:=Tryz.sizeOf74; have v22:=Tryz.zeroValue74
 have z24:=Tryz.sizeOf86
 have u0:=run_underlying Tryz.underlying0; have u3:=run_underlying Tryz.underlying3; have u4:=run_underlying Tryz.underlying4; have u22:=run_underlying Tryz.underlying74
 have mixed:Tryz.prog.follows .mixedOrders=true:=by kernel_rfl
 have hz1:¬ ((m:Int)=0):=by omega
 obtain⟨i0,hi0,hz0,hzs,hzb⟩:=Tryz.info86
 have hrun : ∀ ty,(Builtin.append_ #[74,74] ty #[.slice (some ⟨b,off,none⟩) n c,.slice (some ⟨vb,voff,none⟩) m vc]).run Tryz.prog w=.ok (.slice (some ⟨b,off,none⟩) (n+m) c) (w.setCells b (off+n * 5) vs):=fun ty=>by
  rw [Am.run_app_fits (news:=vs) Tryz.underlying74 Tryz.underlying74 (.inl ⟨_,rfl⟩) hi0 (fun w'=>rfl) (by rw [hzs]; exact run_firstCells_some w 5 m ⟨vb,voff,none⟩ m vc vs (by omega) (fun j u hj=>by rw [Addr.add_lit]; exact hvs j u hj)) hroom]
  have hst:=run_storeCells_cells (P:=Tryz.prog) b (off+n * 5) vs 0 w (fun j hj=>by rw [Nat.add_zero]; exact hsp j (by omega)) (fun j hj=>by rw [Nat.add_zero]; exact hfz j (by omega)) h1v
  simp only [Sem.run_bind,Addr.add_lit,hzs,hst,Nat.add_zero,Result.andThen_ok,Sem.run_pure]
 have nt:Tryz.f98.ntmps=95:=by kernel_rfl
 clear hsp hfz hvs h1v
 go_enter Tryz.func98,nt
 go_wp2_with (at_builtin; refine Lib.wpList_append_run _ rfl _ _ _ _ rfl _ _ rfl rfl _ _ (hrun _) ?_)
 go_ret
 exact⟨rfl,rfl⟩
set_option maxHeartbeats 4000000 in
set_option maxRecDepth 100000 in
theorem Tryz.insert98_end_grow0 (base:Option Addr)(n c vb voff m vc:Nat)(cs vs:List Value)(w:World)(hm:0<m)(hnc:n≤c)(hroom:c<n+m)(hbig:(n+m) * 40≤140737488355328)
  (hcl:cs.length=n * 5) (hvl:vs.length=m * 5) (hnil:base=none→n=0)
  (hcs : ∀ a,base=some a → ∀ j v,cs[j]? = some v→w.cell? (a.add j)=some v)
  (hvs : ∀ j v,vs[j]? = some v→w.cell? ⟨vb,voff+j,none⟩=some v) (h1v : ∀ v ∈ vs,v.oneCell'=true) :
  Calls Tryz.prog 98 #[.slice base n c,.int .i64 n,.slice (some ⟨vb,voff,none⟩) m vc] w fun e w'=>
   e=.returned (.slice (some ⟨w.heap.size,0,none⟩) (n+m) (grownCap w (n+m) c 86)) ∧
   w'=w.drew.alloc (.cells (cs.toArray++vs.toArray++Builtin.zeroCells Tryz.zero86.cells (grownCap w (n+m) c 86 - (n+m))) 86):=by
 have t0:=Tryz.underlying0; have a0:=Tryz.isAgg0; have z0:=Tryz.sizeOf0; have v0:=Tryz.zeroValue0; have t3:=Tryz.underlying3; have a3:=Tryz.isAgg3; have z3:=Tryz.sizeOf3; have v3:=Tryz.zeroValue3; have t4:=Tryz.underlying4; have a4:=Tryz.isAgg4; have z4:=Tryz.sizeOf4; have v4:=Tryz.zeroValue4; have t22:=Tryz.underlying74; have a22:=Tryz.isAgg74; have z22:=Tryz.sizeOf74; have v22:=Tryz.zeroValue74
 have z24:=Tryz.sizeOf86
 have u0:=run_underlying Tryz.underlying0; have u3:=run_underlying Tryz.underlying3; have u4:=run_underlying Tryz.underlying4; have u22:=run_underlying Tryz.underlying74
 have mixed:Tryz.prog.follows .mixedOrders=true:=by kernel_rfl
 obtain⟨i0,hi0,hz0,hzs,hzb⟩:=Tryz.info86
 have hz1:¬ ((m:Int)=0):=by omega
 have hold : ∀ w':World,w'.heap=w.heap→(Builtin.firstCells i0.size n (.slice base n c)).run Tryz.prog w'=.ok cs.toArray w':=fun w' hw'=>by
  rw [hzs]
  cases base with
  | none=>
   have h0:=hnil rfl
   subst h0
   rw [List.length_eq_zero_iff.1 (by omega:cs.length=0)]
   exact run_firstCells_none w' 5 0 0 c
  | some a=>exact run_firstCells_some w' 5 n a n c cs (by omega) (fun j v hj=>by have:=hcs a rfl j v hj; unfold World.cell? at this ⊢; rw [hw']; exact this)
 have hrun : ∀ ty,(Builtin.append_ #[74,74] ty #[.slice base n c,.slice (some ⟨vb,voff,none⟩) m vc]).run Tryz.prog w=.ok (.slice (some ⟨w.heap.size,0,none⟩) (n+m) (grownCap w (n+m) c 86)) (w.drew.alloc (.cells (cs.toArray++vs.toArray++Builtin.zeroCells Tryz.zero86.cells (grownCap w (n+m) c 86 - (n+m))) 86)):=fun ty=>
  Am.run_app_grows (olds:=cs) (news:=vs) Tryz.underlying74 Tryz.underlying74 (.inl ⟨_,rfl⟩) hi0 hz0 (fun w'=>rfl)
   (fun w' hw'=>by rw [hzs]; exact run_firstCells_some w' 5 m ⟨vb,voff,none⟩ m vc vs (by omega) (fun j u hj=>by rw [Addr.add_lit]; have:=hvs j u hj; unfold World.cell? at this ⊢; rw [hw']; exact this)) hold hroom (by rw [hzb]; exact hbig) (by rw [hzb]; decide)
 obtain⟨ROW,hROW⟩ : ∃ ROW,ROW=cs.toArray++vs.toArray++Builtin.zeroCells Tryz.zero86.cells (grownCap w (n+m) c 86 - (n+m)):=⟨_,rfl⟩
 obtain⟨G,hG⟩ : ∃ G,G=grownCap w (n+m) c 86:=⟨_,rfl⟩
 simp only [← hROW,← hG]
 simp only [← hROW,← hG] at hrun
 have nt:Tryz.f98.ntmps=95:=by kernel_rfl
 clear hcs hvs h1v hold hROW hG
 go_enter Tryz.func98,nt
 cases base with
 | none=>
  have h0:=hnil rfl
  subst h0
  go_wp2_with (at_builtin; refine Lib.wpList_append_run _ rfl _ _ _ _ rfl _ _ rfl rfl _ _ (hrun _) ?_)
  go_ret
  exact⟨rfl,rfl⟩
 | some a=>
  obtain⟨ab,ao,asp⟩:=a
  go_wp2_with (at_builtin; refine Lib.wpList_append_run _ rfl _ _ _ _ rfl _ _ rfl rfl _ _ (hrun _) ?_)
  all_goals (go_ret; exact⟨rfl,rfl⟩)
set_option maxHeartbeats 4000000 in
set_option maxRecDepth 100000 in
theorem Tryz.insert98_grow (b off n c i vb voff m vc:Nat)(cs vs:List Value)(w:World)(hi:i<n)(hm:0<m)(hnc:n≤c)(hroom:c<n+m)(hbig:(n+m) * 40≤140737488355328)
  (hcl:cs.length=n * 5) (hvl:vs.length=m * 5)
  (hcs : ∀ j v,cs[j]? = some v→w.cell? ⟨b,off+j,none⟩=some v)
  (hvs : ∀ j v,vs[j]? = some v→w.cell? ⟨vb,voff+j,none⟩=some v) (h1c : ∀ v ∈ cs,v.oneCell'=true) (h1v : ∀ v ∈ vs,v.oneCell'=true) :
  Calls Tryz.prog 98 #[.slice (some ⟨b,off,none⟩) n c,.int .i64 i,.slice (some ⟨vb,voff,none⟩) m vc] w fun e w'=>
   e=.returned (.slice (some ⟨w.heap.size,0,none⟩) (n+m) (grownCap w (n+m) c 86)) ∧
   w'=(((w.alloc (.cells ((cs.take (i * 5)).toArray++Builtin.zeroCells Tryz.zero86.cells (n+m - i)++Builtin.zeroCells Tryz.zero86.cells (grownCap w (n+m) c 86 - (n+m))) 86)).drew.setCells w.heap.size (i * 5) vs).drew).setCells w.heap.size ((i+m) * 5) (cs.drop (i * 5)):=by
 have t0:=Tryz.underlying0; have a0:=Tryz.isAgg0; have z0:=Tryz.sizeOf0; have v0:=Tryz.zeroValue0; have t3:=Tryz.underlying3; have a3:=Tryz.isAgg3; have z3:=Tryz.sizeOf3; have v3:=Tryz.zeroValue3; have t4:=Tryz.underlying4; have a4:=Tryz.isAgg4; have z4:=Tryz.sizeOf4; have v4:=Tryz.zeroValue4; have t22:=Tryz.underlying74; have a22:=Tryz.isAgg74; have z22:=Tryz.sizeOf74; have v22:=Tryz.zeroValue74
 have z24:=Tryz.sizeOf86
 have u0:=run_underlying Tryz.underlying0; have u3:=run_underlying Tryz.underlying3; have u4:=run_underlying Tryz.underlying4; have u22:=run_underlying Tryz.underlying74
 have mixed:Tryz.prog.follows .mixedOrders=true:=by kernel_rfl
 obtain⟨i0,hi0,hz0,hzs,hzb⟩:=Tryz.info86
 have hz1:¬ ((m:Int)=0):=by omega
 have hz2:¬ ((i:Int)=(n:Int)):=by omega
 have hz3:(c:Int)<(n:Int)+(m:Int):=by omega
 have hsz:(Tryz.prog.info? 86).map (·.size)=some 5:=by rw [hi0]; simp [hzs]
 have hbw:b<w.heap.size:=block_lt_of_cell (hcs 0 _ (List.getElem?_eq_getElem (by omega)))
 have hvw:vb<w.heap.size:=block_lt_of_cell (hvs 0 _ (List.getElem?_eq_getElem (by omega)))
 have hkk:(n:Int)+(m:Int) - (i:Int)=((n+m - i:Nat):Int):=by omega
 have hik:i+(n+m - i)=n+m:=by omega
 have hold:(Builtin.firstCells i0.size i (.slice (some ⟨b,off,none⟩) i c)).run Tryz.prog w.drew=.ok (cs.take (i * 5)).toArray w.drew:=by
  rw [hzs]
  exact run_firstCells_some w.drew 5 i ⟨b,off,none⟩ i c (cs.take (i * 5)) (by rw [List.length_take]; omega) (fun j v hj=>by
   rw [Addr.add_lit]
   rw [List.getElem?_take] at hj
   split at hj
   ·exact hcs j v hj
   ·cases hj)
 have hrz : ∀ ty,(Builtin.append_ #[74,3] ty #[.slice (some ⟨b,off,none⟩) i c,.int .i64 ((n:Int)+(m:Int) - (i:Int))]).run Tryz.prog w =
   .ok (.slice (some ⟨w.heap.size,0,none⟩) (n+m) (grownCap w (n+m) c 86)) (w.drew.alloc (.cells ((cs.take (i * 5)).toArray++Builtin.zeroCells Tryz.zero86.cells (n+m - i)++Builtin.zeroCells Tryz.zero86.cells (grownCap w (n+m) c 86 - (n+m))) 86)):=fun ty=>by
  have h:=Lib.run_append_grow_zeros w 74 3 ty 86 i0 _ .i64 .i64 Tryz.underlying74 Tryz.underlying3 hi0 hz0 (some ⟨b,off,none⟩) i c (cs.take (i * 5)) hold (n+m - i) (by omega) (by omega) (by omega) (by omega) (by rw [hzb]; omega) (by rw [hzb,hik]; exact growslice_fits hroom hbig)
  rw [hik] at h
  rw [hkk]
  exact h
 obtain⟨G,hG⟩ : ∃ G,G=grownCap w (n+m) c 86:=⟨_,rfl⟩
 obtain⟨ROW,hROW⟩ : ∃ ROW:Array Value,ROW=(cs.take (i * 5)).toArray++Builtin.zeroCells Tryz.zero86.cells (n+m - i)++Builtin.zeroCells Tryz.zero86.cells (G - (n+m)):=⟨_,rfl⟩
 rw [← hG] at hrz ⊢
 rw [← hROW] at hrz ⊢
 have hRl:(n+m) * 5≤ROW.size:=by
  rw [hROW]
  simp only [Array.size_append,Am.size_zc,List.size_toArray,List.length_take,show Tryz.zero86.cells.size=5 from rfl]
  omega
 obtain⟨W1,hW1⟩ : ∃ W1,W1=w.drew.alloc (.cells ROW 86):=⟨_,rfl⟩
 rw [← hW1] at hrz
 have hN : ∀ j,j<(n+m) * 5→(W1.cell? ⟨w.heap.size,j,none⟩).isSome=true:=fun j hj=>by
  rw [hW1,World.cell?_alloc_at (w:=w.drew) ROW _ w.heap.size j rfl,Array.getElem?_eq_getElem (by omega)]; rfl
 have hNf : ∀ j,W1.frozen? ⟨w.heap.size,j,none⟩=false:=fun j=>by rw [hW1]; exact World.frozen?_alloc_at (w:=w.drew) ROW _ w.heap.size j rfl
 have hOb : ∀ j v,w.cell? ⟨b,j,none⟩=some v→W1.cell? ⟨b,j,none⟩=some v:=fun j v h=>by rw [hW1,World.cell?_alloc_past (w:=w.drew) _ b j hbw]; exact h
 have hOv : ∀ j v,w.cell? ⟨vb,j,none⟩=some v→W1.cell? ⟨vb,j,none⟩=some v:=fun j v h=>by rw [hW1,World.cell?_alloc_past (w:=w.drew) _ vb j hvw]; exact h
 have hcpA : ∀ (W:World),(∀ x,W.cell? x=W1.cell? x)→(∀ x,W.frozen? x=W1.frozen? x) → ∀ ty dc,(Builtin.copy_ #[74,74] ty #[.slice (some ⟨w.heap.size,i * 5,none⟩) (n+m - i) dc,.slice (some ⟨vb,voff,none⟩) m vc]).run Tryz.prog W=.ok (goInt m) (W.setCells w.heap.size (i * 5) vs):=fun W hWc hWf ty dc=>by
  have hmin:Nat.min m (n+m - i)=m:=by simp only [Nat.min_def]; split <;> omega
  have:=Jg W 74 74 ty 86 5 w.heap.size (i * 5) (n+m - i) dc ⟨vb,voff,none⟩ m vc vs Tryz.underlying74 hsz (by rw [hvl,hmin])
   (fun j v hj=>by rw [Addr.add_lit,hWc]; exact hOv _ v (hvs j v hj))
   (fun j hj=>by rw [hWc]; exact hN _ (by omega)) (fun j hj=>by rw [hWf]; exact hNf _) h1v
  rw [hmin] at this
  exact this
 have hGn:n+m≤G:=by rw [hG]; exact grownCap_ge w _ _ _
 have hG63:G≤9223372036854775807:=by
  have:=grownCap_le_maxLen w (n+m) c 86 (by unfold maxLen; omega)
  rw [← hG] at this
  unfold maxLen at this
  omega
 have hGi:¬ (G=i):=by omega
 have hGim:¬ (G=i+m):=by omega
 have hci:¬ (c=i):=by omega
 have hbN:b≠w.heap.size:=by omega
 have hdl:(cs.drop (i * 5)).length=(n - i) * 5:=by rw [List.length_drop,hcl]; omega
 have hcpB : ∀ (W:World),(∀ x,W.cell? x=(W1.setCells w.heap.size (i * 5) vs).cell? x)→(∀ x,W.frozen? x=(W1.setCells w.heap.size (i * 5) vs).frozen? x) → ∀ ty dc sc,(Builtin.copy_ #[74,74] ty #[.slice (some ⟨w.heap.size,(i+m) * 5,none⟩) (n+m - (i+m)) dc,.slice (some ⟨b,off+i * 5,none⟩) (n - i) sc]).run Tryz.prog W=.ok (goInt ((n - i:Nat):Int)) (W.setCells w.heap.size ((i+m) * 5) (cs.drop (i * 5))):=fun W hWc hWf ty dc sc=>by
  have hmin:Nat.min (n - i) (n+m - (i+m))=n - i:=by simp only [Nat.min_def]; split <;> omega
  have:=Jg W 74 74 ty 86 5 w.heap.size ((i+m) * 5) (n+m - (i+m)) dc ⟨b,off+i * 5,none⟩ (n - i) sc (cs.drop (i * 5)) Tryz.underlying74 hsz (by rw [hdl,hmin])
   (fun j v hj=>by
    rw [Addr.add_lit,hWc,World.cell?_setCells_out _ _ _ _ _ (fun h _=>absurd h hbN),Nat.add_assoc]
    exact hOb _ v (hcs (i * 5+j) v (by rwa [List.getElem?_drop] at hj)))
   (fun j hj=>by rw [hWc]; exact isSome_setCells _ _ _ _ (fun t ht=>hN _ (by omega)) _ (hN _ (by omega)))
   (fun j hj=>by rw [hWf,World.frozen?_setCells]; exact hNf _) (fun v hv=>h1c v (List.mem_of_mem_drop hv))
  rw [hmin] at this
  exact this
 subst hW1
 have hE1 : ∀ x,((w.alloc (.cells ROW 86)).drew).cell? x=(w.drew.alloc (.cells ROW 86)).cell? x:=fun x=>rfl
 have hE2 : ∀ x,((w.alloc (.cells ROW 86)).drew).frozen? x=(w.drew.alloc (.cells ROW 86)).frozen? x:=fun x=>rfl
 have hF1 : ∀ x,(((w.alloc (.cells ROW 86)).drew.setCells w.heap.size (i * 5) vs).drew).cell? x=((w.drew.alloc (.cells ROW 86)).setCells w.heap.size (i * 5) vs).cell? x:=fun x=>rfl
 have hF2 : ∀ x,(((w.alloc (.cells ROW 86)).drew.setCells w.heap.size (i * 5) vs).drew).frozen? x=((w.drew.alloc (.cells ROW 86)).setCells w.heap.size (i * 5) vs).frozen? x:=fun x=>rfl
 have hw1:IntKind.i64.wrap ((i:Int)+(m:Int))=(i:Int)+(m:Int):=by rw [IntKind.wrap_i64]; omega
 have hb1:(0:Int)≤(i:Int)+(m:Int):=by omega
 have hin:i≤n:=by omega
 have htn:((i:Int)+(m:Int)).toNat=i+m:=by omega
 have hb3:(i:Int)≤(n:Int):=by omega
 have nt:Tryz.f98.ntmps=95:=by kernel_rfl
 clear hkk hik hold hROW hG hRl
 go_enter Tryz.func98,nt
 go_wp2_with (first
  | (at_builtin; refine Lib.wpList_append_run _ rfl _ _ _ _ rfl _ _ rfl rfl _ _ (hrz _) ?_)
  | (at_builtin; refine wpList_copy_runI _ rfl _ _ 74 74 rfl _ _ rfl rfl (hcpA _ hE1 hE2 _ _) ?_)
  | (at_builtin; refine wpList_copy_runI _ rfl _ _ 74 74 rfl _ _ rfl rfl (hcpB _ (fun _=>rfl) (fun _=>rfl) _ _ _) ?_))
 go_region_law_o (refine step_copy_runI rfl _ _ 74 74 rfl (.slice (some ⟨w.heap.size,(i+m) * 5,none⟩) (n+m - (i+m)) (G - (i+m))) (.slice (some ⟨b,off+i * 5,none⟩) (n - i) (c - i)) (by simp [Act.eval,Act.put]) (by simp [Act.eval,Act.put]) (hcpB _ hF1 hF2 3 (G - (i+m)) (c - i)) ?_)
 go_wp2
 go_ret
 exact⟨rfl,rfl⟩
end Go.Proofs
namespace Go.Am
open Go Go.Proofs
set_option linter.unusedVariables false
set_option linter.unusedSimpArgs false
def GWp (w:World):Prop:=True
theorem Awx {w w':World}(e : ∀ b,b<3→w'.heap[b]? = w.heap[b]?)(k:GWp w):GWp w':=trivial
def Awd:List (Option (Uy×FuncId)):=[none,some ([111,118,101,114,102,108,105,103,104,116,47,114,111,117,110,100,115,46,112,104,97,115,101,115,36,49],182),some ([111,118,101,114,102,108,105,103,104,116,47,114,111,117,110,100,115,46,112,104,97,115,101,115,36,50],183),some ([111,118,101,114,102,108,105,103,104,116,47,114,111,117,110,100,115,46,102,105,110,105,115,104,101,100],185),some ([111,118,101,114,102,108,105,103,104,116,47,114,111,117,110,100,115,46,102,105,110,105,115,104,101,100],185)]
def Ato:List AV:=Awd.map Am2
def Anf:List AV:=rV (rI .u32) Adu
def An9:List AV:=rV (rI .u32) Tf
instance gwI:GW Tryz.prog where
 n:=3
 G:=fun m w=>GWp w∧X7 w 0 Ato∧X7 w 1 Anf∧X7 w 2 An9
 keep:=fun hn e k=>⟨Awx (fun b hb=>e b (Nat.lt_of_lt_of_le hb hn)) k.1,k.2.1.keep (Nat.lt_of_lt_of_le (by decide) hn) e,k.2.2.1.keep (Nat.lt_of_lt_of_le (by decide) hn) e,k.2.2.2.keep (Nat.lt_of_lt_of_le (by decide) hn) e⟩
 row:=fun b=>if b=0 then some Ato else if b=1 then some Anf else if b=2 then some An9 else none
 rowOk:=by
  intro m w b r hn hm k hr
  by_cases h0:b=0
  ·subst h0
   simp at hr
   subst hr
   exact⟨by decide,fun mu M _=>k.2.1.rv mu M⟩
  by_cases h1:b=1
  ·subst h1
   simp at hr
   subst hr
   exact⟨by decide,fun mu M _=>k.2.2.1.rv mu M⟩
  by_cases h2:b=2
  ·subst h2
   simp at hr
   subst hr
   exact⟨by decide,fun mu M _=>k.2.2.2.rv mu M⟩
  simp [h0,h1,h2] at hr
theorem Dc:Tryz.prog.follows .mixedOrders=true:=by kernel_rfl
theorem Bk:ti Tryz.prog 3=some ⟨.int .i64,1,8,[.int .i64 0]⟩:=by kernel_rfl
theorem Zd:ti Tryz.prog 4=some ⟨.bool,1,1,[.bool false]⟩:=by kernel_rfl
theorem G2:ti Tryz.prog 5=some ⟨.int .u8,1,1,[.int .u8 0]⟩:=by kernel_rfl
theorem ti9:ti Tryz.prog 9=some ⟨.str,1,16,[.str []]⟩:=by kernel_rfl
theorem Ayj:ti Tryz.prog 20=some ⟨.ifc,1,16,[.nili]⟩:=by kernel_rfl
theorem Dz:ti Tryz.prog 22=some ⟨.sl 5,1,24,[.emp]⟩:=by kernel_rfl
theorem Un:ti Tryz.prog 23=some ⟨.sl 28,1,24,[.emp]⟩:=by kernel_rfl
theorem C3:ti Tryz.prog 24=some ⟨.sl 49,1,24,[.emp]⟩:=by kernel_rfl
theorem A8:ti Tryz.prog 28=some ⟨.sl 3,1,24,[.emp]⟩:=by kernel_rfl
theorem Sb:ti Tryz.prog 33=some ⟨.sl 61,1,24,[.emp]⟩:=by kernel_rfl
theorem He:ti Tryz.prog 35=some ⟨.st [(0,3),(1,3),(2,3),(3,28),(4,28),(5,24),(6,33),(7,28)],8,144,[.int .i64 0,.int .i64 0,.int .i64 0,.emp,.emp,.emp,.emp,.emp]⟩:=by kernel_rfl
theorem Aav:ti Tryz.prog 39=some ⟨.st [(0,3),(1,28),(2,23)],3,56,[.int .i64 0,.emp,.emp]⟩:=by kernel_rfl
theorem Af7:ti Tryz.prog 40=some ⟨.int .i64,1,8,[.int .i64 0]⟩:=by kernel_rfl
theorem Abc:ti Tryz.prog 47=some ⟨.sl 51,1,24,[.emp]⟩:=by kernel_rfl
theorem Bp:ti Tryz.prog 49=some ⟨.arr 32 5,32,32,List.replicate 32 (.int .u8 0)⟩:=by kernel_rfl
theorem L9:ti Tryz.prog 51=some ⟨.st [(0,3),(1,3),(2,28),(3,49)],35,72,[.int .i64 0,.int .i64 0,.emp,.int .u8 0,.int .u8 0,.int .u8 0,.int .u8 0,.int .u8 0,.int .u8 0,.int .u8 0,.int .u8 0,.int .u8 0,.int .u8 0,.int .u8 0,.int .u8 0,.int .u8 0,.int .u8 0,.int .u8 0,.int .u8 0,.int .u8 0,.int .u8 0,.int .u8 0,.int .u8 0,.int .u8 0,.int .u8 0,.int .u8 0,.int .u8 0,.int .u8 0,.int .u8 0,.int .u8 0,.int .u8 0,.int .u8 0,.int .u8 0,.int .u8 0,.int .u8 0]⟩:=by kernel_rfl
theorem Om:ti Tryz.prog 61=some ⟨.st [(0,3),(1,3),(2,3),(3,3),(4,49),(36,24)],37,88,[.int .i64 0,.int .i64 0,.int .i64 0,.int .i64 0,.int .u8 0,.int .u8 0,.int .u8 0,.int .u8 0,.int .u8 0,.int .u8 0,.int .u8 0,.int .u8 0,.int .u8 0,.int .u8 0,.int .u8 0,.int .u8 0,.int .u8 0,.int .u8 0,.int .u8 0,.int .u8 0,.int .u8 0,.int .u8 0,.int .u8 0,.int .u8 0,.int .u8 0,.int .u8 0,.int .u8 0,.int .u8 0,.int .u8 0,.int .u8 0,.int .u8 0,.int .u8 0,.int .u8 0,.int .u8 0,.int .u8 0,.int .u8 0,.emp]⟩:=by kernel_rfl
theorem An6:ti Tryz.prog 68=some ⟨.fn,1,8,[.nilf]⟩:=by kernel_rfl
theorem Wr:ti Tryz.prog 74=some ⟨.sl 86,1,24,[.emp]⟩:=by kernel_rfl
theorem Km:ti Tryz.prog 76=some ⟨.st [(0,3),(1,74)],2,32,[.int .i64 0,.emp]⟩:=by kernel_rfl
theorem Aax:ti Tryz.prog 78=some ⟨.sl 82,1,24,[.emp]⟩:=by kernel_rfl
theorem Xy:ti Tryz.prog 82=some ⟨.st [(0,3),(1,3),(2,3),(3,3),(4,3)],5,40,[.int .i64 0,.int .i64 0,.int .i64 0,.int .i64 0,.int .i64 0]⟩:=by kernel_rfl
theorem Ri:ti Tryz.prog 86=some ⟨.st [(0,3),(1,3),(2,3),(3,3),(4,4)],5,40,[.int .i64 0,.int .i64 0,.int .i64 0,.int .i64 0,.bool false]⟩:=by kernel_rfl
theorem An2:ti Tryz.prog 99=some ⟨.arr 5 68,5,40,[.nilf,.nilf,.nilf,.nilf,.nilf]⟩:=by kernel_rfl
theorem Aeh:ti Tryz.prog 113=some ⟨.map 3 3,1,8,[.mnil]⟩:=by kernel_rfl
theorem Azd:ti Tryz.prog 122=some ⟨.fn,1,8,[.nilf]⟩:=by kernel_rfl
theorem Abq:ti Tryz.prog 134=some ⟨.st [(0,130)],1,8,[.nilf]⟩:=by kernel_rfl
theorem Ad8:ti Tryz.prog 135=some ⟨.map 3 134,1,8,[.mnil]⟩:=by kernel_rfl
theorem M5:ti Tryz.prog 141=some ⟨.st [(0,76)],2,32,[.int .i64 0,.emp]⟩:=by kernel_rfl
theorem Arc:ti Tryz.prog 159=some ⟨.sl 24,1,24,[.emp]⟩:=by kernel_rfl
theorem K8:ti Tryz.prog 169=some ⟨.sl 171,1,24,[.emp]⟩:=by kernel_rfl
theorem P0:ti Tryz.prog 171=some ⟨.st [(0,3),(1,3),(2,9),(3,169)],4,56,[.int .i64 0,.int .i64 0,.str [],.emp]⟩:=by kernel_rfl
theorem Ag1:ti Tryz.prog 174=some ⟨.sl 4,1,24,[.emp]⟩:=by kernel_rfl
theorem Awe:ti Tryz.prog 176=some ⟨.st [(0,40)],1,8,[.int .i64 0]⟩:=by kernel_rfl
theorem Adw:ti Tryz.prog 177=some ⟨.map 3 4,1,8,[.mnil]⟩:=by kernel_rfl
theorem Arb:ti Tryz.prog 189=some ⟨.fn,1,8,[.nilf]⟩:=by kernel_rfl
theorem Qy:ti Tryz.prog 203=some ⟨.st [(0,201)],1,8,[.nilf]⟩:=by kernel_rfl
theorem Azh:ti Tryz.prog 204=some ⟨.ptr 230,1,8,[.nilp]⟩:=by kernel_rfl
theorem Bm:ti Tryz.prog 211=some ⟨.int .u32,1,4,[.int .u32 0]⟩:=by kernel_rfl
theorem Azo:ti Tryz.prog 212=some ⟨.arr 8 211,8,32,[.int .u32 0,.int .u32 0,.int .u32 0,.int .u32 0,.int .u32 0,.int .u32 0,.int .u32 0,.int .u32 0]⟩:=by kernel_rfl
theorem Fw:ti Tryz.prog 213=some ⟨.arr 8 211,8,32,[.int .u32 0,.int .u32 0,.int .u32 0,.int .u32 0,.int .u32 0,.int .u32 0,.int .u32 0,.int .u32 0]⟩:=by kernel_rfl
theorem Zq:ti Tryz.prog 216=some ⟨.int .u64,1,8,[.int .u64 0]⟩:=by kernel_rfl
theorem Am0:ti Tryz.prog 217=some ⟨.sl 22,1,24,[.emp]⟩:=by kernel_rfl
theorem Qx:ti Tryz.prog 230=some ⟨.arr 4 203,4,32,[.nilf,.nilf,.nilf,.nilf]⟩:=by kernel_rfl
theorem Nr:ti Tryz.prog 234=some ⟨.arr 64 211,64,256,List.replicate 64 (.int .u32 0)⟩:=by kernel_rfl
theorem Az1:ti Tryz.prog 238=some ⟨.sl 211,1,24,[.emp]⟩:=by kernel_rfl
theorem Am1:ti Tryz.prog 246=some ⟨.arr 4 4,4,4,[.bool false,.bool false,.bool false,.bool false]⟩:=by kernel_rfl
theorem Yx:T6 Tryz.prog [(0,3),(1,74)]=some [(0,1),(1,1)]:=by kernel_rfl
theorem A0p:T6 Tryz.prog [(0,3),(1,3),(2,3),(3,3),(4,3)]=some [(0,1),(1,1),(2,1),(3,1),(4,1)]:=by kernel_rfl
theorem Amy:T6 Tryz.prog [(0,76)]=some [(0,2)]:=by kernel_rfl
theorem Aa1 {o:BinOp}{x y:Operand}{a b:AV}(ha:a.isAgg=true)(hb:b.isAgg=true):Q6 Tryz.prog o 49 x y a b=true:=Alw ha hb (by kernel_rfl)
theorem Ayy {o:BinOp}{x y:Operand}{a b:AV}(ha:a.isAgg=true)(hb:b.isAgg=true):Q6 Tryz.prog o 82 x y a b=true:=Alw ha hb (by kernel_rfl)
theorem Axz {aKind:Int}{aSlot:Int}{aAirline:Int}{aFlight:Int}{aToken:Int}{bKind:Int}{bSlot:Int}{bAirline:Int}{bFlight:Int}{bToken:Int}:Jr Tryz.prog .neq 82 (AV.agg [(.int .i64 aKind),(.int .i64 aSlot),(.int .i64 aAirline),(.int .i64 aFlight),(.int .i64 aToken)]) (AV.agg [(.int .i64 bKind),(.int .i64 bSlot),(.int .i64 bAirline),(.int .i64 bFlight),(.int .i64 bToken)])=some (.bool (!((aKind==bKind)&&((aSlot==bSlot)&&((aAirline==bAirline)&&((aFlight==bFlight)&&(aToken==bToken))))))):=by
 have he82:Aga Tryz.prog 82=true:=by kernel_rfl
 simp only [Jr,Ut,he82,if_true,List.drop_succ_cons,List.drop_zero,List.take_succ_cons,List.take_zero,List.take_nil,Aws,Avu,W3,H8,Bk,Xy,TK.agg,Nat.reduceAdd,Nat.reduceLT,Nat.reduceLeDiff,List.length_cons,List.length_nil,List.getD_cons_zero,List.getD_cons_succ,Asm,Bool.and_true,Option.map_some,if_false,Bool.false_eq_true,reduceCtorEq,Nat.zero_add]
 try rfl
end Go.Am
namespace Go.Am
open Go
set_option maxRecDepth 100000
set_option maxHeartbeats 4000000
set_option linter.unusedSimpArgs false
set_option linter.unusedVariables false
noncomputable section
def L0 (l:List Int):R Unit:=Wj l
def G4 (a:Int)(m:(List (Int×Int)))(airlines:List Int):R ((List (Int×Int))×(List Int)):=
 if((decide (a<0))||(decide (a≥8))) then
(.ok (m,airlines))
else
(if((Option.getD (D0 m a) 0)==0) then
(if(airlines.length+[a].length) * 8≤Bz then
 .ok ((L4 m a (IntKind.wrap .i64 ((Option.getD (D0 m a) 0)+1))),(airlines++[a])) else .bad)
else
(.ok ((L4 m a (IntKind.wrap .i64 ((Option.getD (D0 m a) 0)+1))),airlines)))
def Fk (owners:List Int):R ((List Int)×(List (Int×Int))):=
 (eachS (fun _ a=>Da fun m airlines=>G4 a m airlines) 0 owners ([],[])).bind ((Da fun m airlines=>(L0 airlines).bind fun _=>
 .ok ((Pq airlines),m)))
def J0 (c:Clearing)(j:Nat)(a:Int)(last:Int):R (Int ⊕ Bool):=
 (if((decide (a≤last))||(decide (a > 4095))) then R.ok true else(idx c.Owners (j:Int)).bind fun a1=>
 R.ok (decide (a1<0))).bind (fun(b:Bool)=>(if b then R.ok true else(idx c.Owners (j:Int)).bind fun a2=>
 R.ok (decide (a2≥8))).bind (fun(b1:Bool)=>if b1 then
(.ok (.inr (false)))
else
(.ok (.inl a))))
def Ng (c:Clearing):R Bool:=
 if(((((((decide (c.No<1))||(decide (c.No > 1048576)))||(decide (c.Slots<1)))||(decide (c.Slots > 8)))||(decide ((c.Flights.length:Int)<1)))||(decide ((c.Flights.length:Int) > c.Slots)))||((c.Owners.length:Int) != (c.Flights.length:Int))) then
(.ok false)
else
((each (fun j a=>fun last=>J0 c j a last) 0 c.Flights (-1)).bind (alt (fun last=>(Fk c.Owners).bind fun r=>
 .ok ((c.Commitments.length:Int)==(r.1.length:Int))) (fun r=>.ok r)))
def Mf (v:(Vector Int 32))(j:Nat)(a:(Vector Int 32)):R (Unit ⊕ Int):=
 if(v==a) then
(.ok (.inr ((j:Int))))
else
(.ok (.inl ()))
def Oz (s:(List (Vector Int 32)))(v:(Vector Int 32)):R Int:=
 (each (fun j a=>fun _=>Mf v j a) 0 s ()).bind (alt (fun _=>.ok (-1)) (fun r=>.ok r))
def Jo (s:(List (Vector Int 32)))(v:(Vector Int 32)):R Bool:=
 (Oz s v).bind fun r=>
 .ok (decide (r≥0))
def Fl (c:Clearing):R Bool:=
 (Jo c.Commitments (#v[0,0,0,0,0,0,0,0,0,0,0,0,0,0,0,0,0,0,0,0,0,0,0,0,0,0,0,0,0,0,0,0]:(Vector Int 32))).bind fun r=>
 .ok (!r)
def Og (c:Clearing):R Bool:=
 (Fl c).bind fun r=>
 .ok ((!r)&&((IntKind.wrap .i64 ((c.Openings.length:Int)+(c.Outcome.length:Int)))==0))
def Sl (a:Int):R Bool:=
 .ok (a != a)
def Jh (a:Int)(y:Int):R Int:=
 (Sl a).bind fun xNaN=>
 (Sl y).bind fun yNaN=>
 if xNaN then
(if yNaN then
(.ok 0)
else
(.ok (-1)))
else
(if yNaN then
(.ok 1)
else
(if a<y then
(.ok (-1))
else
(if a > y then
(.ok 1)
else
(.ok 0))))
def M9 (a:Int):R (Unit ⊕ Int):=
 if(a != 0) then
(.ok (.inr (a)))
else
(.ok (.inl ()))
def We (vals:List Int):R Int:=
 (each (fun _ a=>fun _=>M9 a) 0 vals ()).bind (alt (fun _=>.ok 0) (fun r=>.ok r))
def Mk (a:Opening)(b:Opening):R Int:=
 (Jh a.Flight b.Flight).bind fun r=>
 (Jh a.Slot b.Slot).bind fun r1=>
 (We [r,r1]).bind fun r2=>
 .ok r2
def Ox (v:Int)(j:Nat)(a:Int):R (Unit ⊕ Int):=
 if(v==a) then
(.ok (.inr ((j:Int))))
else
(.ok (.inl ()))
def F9 (s:List Int)(v:Int):R Int:=
 (each (fun j a=>fun _=>Ox v j a) 0 s ()).bind (alt (fun _=>.ok (-1)) (fun r=>.ok r))
def Jy (airline:Int)(flight:Int):R Bool:=
 .ok ((((decide (airline≥0))&&(decide (airline<8)))&&(decide (flight≥0)))&&(decide (flight≤4095)))
def Kt (c:Int):R Bool:=
 .ok ((decide (c≥(-1)))&&(decide (c≤1048576)))
def Ia (W_:Value→R (Int×Bool))(a:Value)(depth:Int):R (Int ⊕ (Int×Bool)):=
 (W_ a).bind fun r=>
 if r.2 then
(.ok (.inl (if r.1 > depth then r.1 else depth)))
else
(.ok (.inr ((0,false))))
def N6 (W_:Value→R (Int×Bool))(v:Value):R (Int×Bool):=
 (if((decide (v.Kind<1))||(decide (v.Kind > 3))) then R.ok true else if(0:Int)≤v.Kind∧v.Kind<4 then
 R.ok (!(Az (#v[false,((v.S==[])&&((v.L.length:Int)==0)),((v.N==0)&&((v.L.length:Int)==0)),((v.N==0)&&(v.S==[]))]:(Vector Bool 4)) (Int.toNat v.Kind) false)) else .bad).bind (fun(b:Bool)=>if b then
(.ok (0,false))
else
(if v.Kind<3 then
(.ok (0,true))
else
((each (fun _ a=>fun depth=>Ia W_ a depth) 0 v.L 0).bind (alt (fun depth=>.ok ((IntKind.wrap .i64 (depth+1)),true)) (fun r=>.ok r)))))
def Ht:Nat→Value→R (Int×Bool)
 | 0,_=>.bad
 | n+1,v=>N6 (Ht n) v
def Rn (v:Value):R (Int×Bool):=Ht Wl v
def Qn (v:Value):R Int:=
 (Rn v).bind fun r=>
 if r.2 then
(if r.1 > 16 then
(.ok 2)
else
(.ok 0))
else
(.ok 1)
def La:R Unit:=
 .ok ()
def Rh (n:Int):R Int:=
 .ok (C4 .u64 (S6 .u64 (IntKind.wrap .u64 n) 1) (IntKind.wrap .u64 (Int.fdiv n 9223372036854775808)))
def Ip (u1:Int)(b:List Int):R ((Int×(List Int)) ⊕ (Int×(List Int))):=
 if u1≥128 then
(if(b.length+[(Nw .u8 (IntKind.wrap .u8 u1) 128)].length) * 1≤Bz then
 .ok (.inl ((Int.fdiv u1 128),(b++[(Nw .u8 (IntKind.wrap .u8 u1) 128)]))) else .bad)
else
(.ok (.inr ((u1,b))))
def Il (u2:Int)(b1:List Int):R (List Int):=
 if(b1.length+[(IntKind.wrap .u8 u2)].length) * 1≤Bz then
 .ok (b1++[(IntKind.wrap .u8 u2)]) else .bad
def F3 (u:Int)(l:List Int):R (List Int):=
 (loop (Da fun u1 b=>Ip u1 b) (u,l)).bind (Da fun u2 b1=>Il u2 b1)
def Ek (v1:Value)(l:List Int):R (List Int):=
 if(l.length+[1].length) * 1≤Bz then
 (Rh v1.N).bind fun r=>
 (F3 r (l++[1])).bind fun r1=>
 .ok r1 else .bad
def F4 (v1:Value)(l:List Int):R (List Int):=
 if(l.length+[2].length) * 1≤Bz then
 (F3 (IntKind.wrap .u64 (v1.S.length:Int)) (l++[2])).bind fun r=>
 if(r.length+(Nl v1.S).length) * 1≤Bz then
 .ok (r++(Nl v1.S)) else .bad else .bad
def Ha (W_:Value→(List Int)→R (List Int))(a:Value)(b1:List Int):R (List Int):=
 if a.Kind=0 then
(.bad)
else
(if a.Kind=1 then
((Ek a b1).bind fun b2=>
 .ok b2)
else
(if a.Kind=2 then
((F4 a b1).bind fun b3=>
 .ok b3)
else
(if a.Kind=3 then
((W_ a b1).bind fun b4=>
 .ok b4)
else
(.bad))))
def Hv (W_:Value→(List Int)→R (List Int))(v1:Value)(l:List Int):R (List Int):=
 if(l.length+[3].length) * 1≤Bz then
 (F3 (IntKind.wrap .u64 (v1.L.length:Int)) (l++[3])).bind fun b=>
 (eachS (fun _ a=>fun b1=>Ha W_ a b1) 0 v1.L b).bind ((fun b1=>.ok b1)) else .bad
def H0:Nat→Value→(List Int)→R (List Int)
 | 0,_,_=>.bad
 | n+1,v1,l=>Hv (H0 n) v1 l
def K1 (v1:Value)(l:List Int):R (List Int):=H0 Wl v1 l
def Fq (a:Value)(b1:List Int):R (List Int):=
 if a.Kind=0 then
(.bad)
else
(if a.Kind=1 then
((Ek a b1).bind fun b2=>
 .ok b2)
else
(if a.Kind=2 then
((F4 a b1).bind fun b3=>
 .ok b3)
else
(if a.Kind=3 then
((K1 a b1).bind fun b4=>
 .ok b4)
else
(.bad))))
def Io (v1:Value):R (List Int):=
 if [3].length * 1≤Bz then
 (F3 (IntKind.wrap .u64 (v1.L.length:Int)) [3]).bind fun b=>
 (eachS (fun _ a=>fun b1=>Fq a b1) 0 v1.L b).bind ((fun b1=>.ok b1)) else .bad
def Mq (v:Value):R ((List Int)×Int):=
 (Qn v).bind fun e=>
 if(e != 0) then
(.ok ([],e))
else
((La).bind fun _=>
 if v.Kind=0 then
(.bad)
else
(if v.Kind=1 then
((Ek v []).bind fun b=>
 .ok (b,0))
else
(if v.Kind=2 then
((F4 v []).bind fun b1=>
 .ok (b1,0))
else
(if v.Kind=3 then
((Io v).bind fun b2=>
 .ok (b2,0))
else
(.bad)))))
def Ug (a:Int)(n:Int):R Int:=
 .ok (Nw .u32 (S6 .u32 n 8) (IntKind.wrap .u32 a))
def U0 (b:List Int):R Int:=
 if(0:Int)≤4∧4≤(b.length:Int) then
 (eachS (fun _ a=>fun n=>Ug a n) 0 (b.take (Int.toNat 4)) 0).bind ((fun n=>.ok n)) else .bad
def C8 (a:Int)(k:Int):R Int:=
 if(0:Int)≤(Ey .u64 (IntKind.wrap .u64 k) 31) then if(0:Int)≤(IntKind.wrap .u64 (32 - (Ey .u64 (IntKind.wrap .u64 k) 31))) then .ok (Nw .u32 (S6 .u32 a (Ey .u64 (IntKind.wrap .u64 k) 31)) (Q5 .u32 a (IntKind.wrap .u64 (32 - (Ey .u64 (IntKind.wrap .u64 k) 31))))) else .bad else .bad
def Oa (v:Int)(a:Int)(b:Int)(c:Int):R Int:=
 (C8 v (IntKind.wrap .i64 (0 - a))).bind fun r=>
 (C8 v (IntKind.wrap .i64 (0 - b))).bind fun r1=>
 (C8 v (IntKind.wrap .i64 (0 - c))).bind fun r2=>
 .ok (C4 .u32 (C4 .u32 r r1) r2)
def H1 (b:List Int)(j:Nat)(o:(Vector Int 64)):R (Vector Int 64):=
 if(0:Int)≤(IntKind.wrap .i64 (4 * (j:Int)))∧(IntKind.wrap .i64 (4 * (j:Int)))≤(b.length:Int) then
 (U0 (b.drop (Int.toNat (IntKind.wrap .i64 (4 * (j:Int)))))).bind fun r=>
 .ok (Ns o j r) else .bad
def Ff (x1:Int)(o1:(Vector Int 64)):R ((Int×(Vector Int 64)) ⊕ (Vector Int 64)):=
 if x1<64 then
(if(0:Int)≤(IntKind.wrap .i64 (x1 - 15))∧(IntKind.wrap .i64 (x1 - 15))<64 then
 if(0:Int)≤(IntKind.wrap .i64 (x1 - 2))∧(IntKind.wrap .i64 (x1 - 2))<64 then
 if(0:Int)≤(IntKind.wrap .i64 (x1 - 16))∧(IntKind.wrap .i64 (x1 - 16))<64 then
 if(0:Int)≤(IntKind.wrap .i64 (x1 - 7))∧(IntKind.wrap .i64 (x1 - 7))<64 then
 (C8 (Az o1 (Int.toNat (IntKind.wrap .i64 (x1 - 15))) 0) (-7)).bind fun r1=>
 (C8 (Az o1 (Int.toNat (IntKind.wrap .i64 (x1 - 15))) 0) (-18)).bind fun r2=>
 (C8 (Az o1 (Int.toNat (IntKind.wrap .i64 (x1 - 2))) 0) (-17)).bind fun r3=>
 (C8 (Az o1 (Int.toNat (IntKind.wrap .i64 (x1 - 2))) 0) (-19)).bind fun r4=>
 if(0:Int)≤x1∧x1<64 then
 .ok (.inl ((IntKind.wrap .i64 (x1+1)),(Ns o1 (Int.toNat x1) (IntKind.wrap .u32 ((IntKind.wrap .u32 ((IntKind.wrap .u32 ((Az o1 (Int.toNat (IntKind.wrap .i64 (x1 - 16))) 0)+(C4 .u32 (C4 .u32 r1 r2) (Int.fdiv (Az o1 (Int.toNat (IntKind.wrap .i64 (x1 - 15))) 0) 8))))+(Az o1 (Int.toNat (IntKind.wrap .i64 (x1 - 7))) 0)))+(C4 .u32 (C4 .u32 r3 r4) (Int.fdiv (Az o1 (Int.toNat (IntKind.wrap .i64 (x1 - 2))) 0) 1024))))))) else .bad else .bad else .bad else .bad else .bad)
else
(.ok (.inr (o1)))
def Jp (o2:(Vector Int 64))(j1:Nat)(o3:(Vector Int 8)):R (Vector Int 8):=
 (Oa (Az o3 4 0) 6 11 25).bind fun r5=>
 (Oa (Az o3 0 0) 2 13 22).bind fun r6=>
 if((o3.toList.drop 0).take 7).length≤7 then
 .ok (Ns (Ns (S7 o3 1 ((o3.toList.drop 0).take 7)) 4 (IntKind.wrap .u32 ((Az (S7 o3 1 ((o3.toList.drop 0).take 7)) 4 0)+(IntKind.wrap .u32 ((IntKind.wrap .u32 ((IntKind.wrap .u32 ((IntKind.wrap .u32 ((Az o3 7 0)+r5))+(C4 .u32 (Az o3 6 0) (Ey .u32 (Az o3 4 0) (C4 .u32 (Az o3 5 0) (Az o3 6 0))))))+(Az Tf j1 0)))+(Az o2 j1 0)))))) 0 (IntKind.wrap .u32 ((IntKind.wrap .u32 ((IntKind.wrap .u32 ((IntKind.wrap .u32 ((IntKind.wrap .u32 ((Az o3 7 0)+r5))+(C4 .u32 (Az o3 6 0) (Ey .u32 (Az o3 4 0) (C4 .u32 (Az o3 5 0) (Az o3 6 0))))))+(Az Tf j1 0)))+(Az o2 j1 0)))+(IntKind.wrap .u32 (r6+(Nw .u32 (Ey .u32 (Az o3 0 0) (Az o3 1 0)) (Ey .u32 (Az o3 2 0) (Nw .u32 (Az o3 0 0) (Az o3 1 0))))))))) else .bad
def Ju (o3:(Vector Int 8))(j2:Nat)(o4:(Vector Int 8)):R (Vector Int 8):=
 .ok (Ns o4 j2 (IntKind.wrap .u32 ((Az o4 j2 0)+(Az o3 j2 0))))
def Gc (s:(Vector Int 8))(o2:(Vector Int 64)):R (Vector Int 8):=
 (eachS (fun j1 _=>fun o3=>Jp o2 j1 o3) 0 (List.range 64) s).bind ((fun o3=>(eachS (fun j2 _=>fun o4=>Ju o3 j2 o4) 0 (List.range 8) s).bind ((fun o4=>.ok o4))))
def Es (b:List Int)(s:(Vector Int 8)):R (Vector Int 8):=
 (eachS (fun j _=>fun o=>H1 b j o) 0 (List.range 16) (Bw 64 0)).bind ((fun o=>(loop (Da fun x1 o1=>Ff x1 o1) (16,o)).bind (fun o2=>Gc s o2)))
def Si (c:Nat)(n:Int)(j:Nat)(o:(Vector Int 128)):R (Vector Int 128):=
 if(0:Int)≤(IntKind.wrap .i64 (8 * (j:Int))) then if(0:Int)≤(IntKind.wrap .i64 (7 - (j:Int)))∧(IntKind.wrap .i64 (7 - (j:Int)))<8 then
 .ok (Ns o (c+Int.toNat (IntKind.wrap .i64 (7 - (j:Int)))) (IntKind.wrap .u8 (Q5 .u64 n (IntKind.wrap .i64 (8 * (j:Int)))))) else .bad else .bad
def Nq (c:Nat)(cp:Nat)(n:Int)(s:(Vector Int 128)):R (Vector Int 128):=
 (eachS (fun j _=>fun o=>Si c n j o) 0 (List.range 8) s).bind ((fun o=>.ok o))
def Qf (c:Nat)(n:Int)(j:Nat)(o:(Vector Int 32)):R (Vector Int 32):=
 if(0:Int)≤(IntKind.wrap .i64 (8 * (j:Int))) then if(0:Int)≤(IntKind.wrap .i64 (3 - (j:Int)))∧(IntKind.wrap .i64 (3 - (j:Int)))<4 then
 .ok (Ns o (c+Int.toNat (IntKind.wrap .i64 (3 - (j:Int)))) (IntKind.wrap .u8 (Q5 .u64 n (IntKind.wrap .i64 (8 * (j:Int)))))) else .bad else .bad
def Of (c:Nat)(cp:Nat)(n:Int)(s:(Vector Int 32)):R (Vector Int 32):=
 (eachS (fun j _=>fun o=>Qf c n j o) 0 (List.range 4) s).bind ((fun o=>.ok o))
def Lk (rest:List Int)(o:(Vector Int 8)):R (((List Int)×(Vector Int 8)) ⊕ ((List Int)×(Vector Int 8))):=
 if(rest.length:Int)≥64 then
(if(0:Int)≤64∧64≤(rest.length:Int) then
 (Es (rest.take (Int.toNat 64)) o).bind fun r=>
 if(0:Int)≤64∧64≤(rest.length:Int) then
 .ok (.inl ((rest.drop (Int.toNat 64)),r)) else .bad else .bad)
else
(.ok (.inr ((rest,o))))
def I2 (vend:List Int)(o2:(Vector Int 8)):R (((List Int)×(Vector Int 8)) ⊕ (Vector Int 8)):=
 if(vend.length:Int) > 0 then
(if(0:Int)≤64∧64≤(vend.length:Int) then
 (Es (vend.take (Int.toNat 64)) o2).bind fun r2=>
 if(0:Int)≤64∧64≤(vend.length:Int) then
 .ok (.inl ((vend.drop (Int.toNat 64)),r2)) else .bad else .bad)
else
(.ok (.inr (o2)))
def Sr (o3:(Vector Int 8))(j:Nat)(o4:(Vector Int 32)):R (Vector Int 32):=
 if((IntKind.wrap .i64 ((IntKind.wrap .i64 (4 * (j:Int)))+4))=(IntKind.wrap .i64 (4 * (j:Int)))+4)∧((0:Int)≤(IntKind.wrap .i64 (4 * (j:Int)))∧(IntKind.wrap .i64 (4 * (j:Int)))+4≤32) then
 (Of (Int.toNat (IntKind.wrap .i64 (4 * (j:Int)))) (32 - (Int.toNat (IntKind.wrap .i64 (4 * (j:Int))))) (IntKind.wrap .u64 (Az o3 j 0)) o4).bind fun r3=>
 .ok r3 else .bad
def Lh (o3:(Vector Int 8)):R (Vector Int 32):=
 (eachS (fun j _=>fun o4=>Sr o3 j o4) 0 (List.range 8) (Bw 32 0)).bind ((fun o4=>.ok o4))
def M8 (vend1:List Int)(o5:(Vector Int 8)):R (((List Int)×(Vector Int 8)) ⊕ (Vector Int 8)):=
 if(vend1.length:Int) > 0 then
(if(0:Int)≤64∧64≤(vend1.length:Int) then
 (Es (vend1.take (Int.toNat 64)) o5).bind fun r5=>
 if(0:Int)≤64∧64≤(vend1.length:Int) then
 .ok (.inl ((vend1.drop (Int.toNat 64)),r5)) else .bad else .bad)
else
(.ok (.inr (o5)))
def U3 (o6:(Vector Int 8))(j1:Nat)(o7:(Vector Int 32)):R (Vector Int 32):=
 if((IntKind.wrap .i64 ((IntKind.wrap .i64 (4 * (j1:Int)))+4))=(IntKind.wrap .i64 (4 * (j1:Int)))+4)∧((0:Int)≤(IntKind.wrap .i64 (4 * (j1:Int)))∧(IntKind.wrap .i64 (4 * (j1:Int)))+4≤32) then
 (Of (Int.toNat (IntKind.wrap .i64 (4 * (j1:Int)))) (32 - (Int.toNat (IntKind.wrap .i64 (4 * (j1:Int))))) (IntKind.wrap .u64 (Az o6 j1 0)) o7).bind fun r6=>
 .ok r6 else .bad
def Pe (o6:(Vector Int 8)):R (Vector Int 32):=
 (eachS (fun j1 _=>fun o7=>U3 o6 j1 o7) 0 (List.range 8) (Bw 32 0)).bind ((fun o7=>.ok o7))
def Li (b:List Int)(rest1:List Int)(o1:(Vector Int 8)):R (Vector Int 32):=
 if rest1.length≤64 then
 if(0:Int)≤(rest1.length:Int)∧(rest1.length:Int)<64 then
 if(rest1.length:Int) > 55 then
((Nq 120 8 (IntKind.wrap .u64 ((IntKind.wrap .u64 (b.length:Int)) * 8)) (Ns (S7 (Bw 128 (0:Int)) 0 rest1) (Int.toNat (rest1.length:Int)) 128)).bind fun r1=>
 (loop (Da fun vend o2=>I2 vend o2) ((r1.toList.take 128),o1)).bind (fun o3=>Lh o3))
else
((Nq 56 72 (IntKind.wrap .u64 ((IntKind.wrap .u64 (b.length:Int)) * 8)) (Ns (S7 (Bw 128 (0:Int)) 0 rest1) (Int.toNat (rest1.length:Int)) 128)).bind fun r4=>
 (loop (Da fun vend1 o5=>M8 vend1 o5) ((r4.toList.take 64),o1)).bind (fun o6=>Pe o6)) else .bad else .bad
def Cx (b:List Int):R (Vector Int 32):=
 (loop (Da fun rest o=>Lk rest o) (b,Adu)).bind (Da fun rest1 o1=>Li b rest1 o1)
def Iz (n:Int):R (List Int):=
 if n<0 then
(.pan ⟨9,.str [99,97,110,110,111,116,32,98,101,32,110,101,103,97,116,105,118,101]⟩)
else
(if(IntKind.wrap .i64 (n - 0)) > 0 then
(if(0:Int)<(IntKind.wrap .i64 (n - 0))∧(Int.toNat (IntKind.wrap .i64 (n - 0))) * 1≤Bz then
 if(0:Int)≤0∧0≤((List.replicate (Int.toNat (IntKind.wrap .i64 (n - 0))) (0:Int)).length:Int) then
 .ok ((List.replicate (Int.toNat (IntKind.wrap .i64 (n - 0))) (0:Int)).take (Int.toNat 0)) else .bad else .bad)
else
(.ok []))
def Ig (a:List Int)(size:Int):R Int:=
 if(IntKind.wrap .i64 (size+(a.length:Int)))<0 then
(.pan ⟨9,.str [108,101,110,32,111,117,116,32,111,102,32,114,97,110,103,101]⟩)
else
(.ok (IntKind.wrap .i64 (size+(a.length:Int))))
def If (a1:List Int)(newslice1:List Int):R (List Int):=
 if(newslice1.length+a1.length) * 1≤Bz then
 .ok (newslice1++a1) else .bad
def F6 (slices:(List (List Int))):R (List Int):=
 (eachS (fun _ a=>fun size=>Ig a size) 0 slices 0).bind ((fun size=>(Iz size).bind fun newslice=>
 (eachS (fun _ a1=>fun newslice1=>If a1 newslice1) 0 slices newslice).bind ((fun newslice1=>.ok newslice1))))
def Hn (tag:Uy)(b:List Int):R (Vector Int 32):=
 if tag.length≤Bz then
 (Cx (Nl tag)).bind fun r=>
 (F6 [r.toList,b]).bind fun r1=>
 (Cx r1).bind fun r2=>
 .ok r2 else .bad
def G7 (a:Int)(l1:List Value):R (List Value):=
 if(l1.length+[({ Kind:=1,N:=a,S:=[],L:=[] }:Value)].length) * 56≤Bz then
 .ok (l1++[({ Kind:=1,N:=a,S:=[],L:=[] }:Value)]) else .bad
def Gy (salt:(Vector Int 32))(l:List Int):R (Vector Int 32):=
 (eachS (fun _ a=>fun l1=>G7 a l1) 0 l []).bind ((fun l1=>(Mq ({ Kind:=3,N:=0,S:=[],L:=l1 }:Value)).bind fun r=>
 if r.1.length≠0∧(32+r.1.length) * 1≤Bz then
 (Hn [99,111,115,116] (salt.toList++r.1)).bind fun r1=>
 .ok r1 else .bad))
def Qa (x1:Int)(n1:Int):R Int:=
 if x1≥256 then
((idx ([0,1,2,2,3,3,3,3,4,4,4,4,4,4,4,4,5,5,5,5,5,5,5,5,5,5,5,5,5,5,5,5,6,6,6,6,6,6,6,6,6,6,6,6,6,6,6,6,6,6,6,6,6,6,6,6,6,6,6,6,6,6,6,6,7,7,7,7,7,7,7,7,7,7,7,7,7,7,7,7,7,7,7,7,7,7,7,7,7,7,7,7,7,7,7,7,7,7,7,7,7,7,7,7,7,7,7,7,7,7,7,7,7,7,7,7,7,7,7,7,7,7,7,7,7,7,7,7,8,8,8,8,8,8,8,8,8,8,8,8,8,8,8,8,8,8,8,8,8,8,8,8,8,8,8,8,8,8,8,8,8,8,8,8,8,8,8,8,8,8,8,8,8,8,8,8,8,8,8,8,8,8,8,8,8,8,8,8,8,8,8,8,8,8,8,8,8,8,8,8,8,8,8,8,8,8,8,8,8,8,8,8,8,8,8,8,8,8,8,8,8,8,8,8,8,8,8,8,8,8,8,8,8,8,8,8,8,8,8,8,8,8,8,8,8,8,8,8,8,8,8,8,8,8,8,8]:Uy) (IntKind.wrap .u8 (Int.fdiv x1 256))).bind fun a1=>
 .ok (IntKind.wrap .i64 ((IntKind.wrap .i64 (n1+8))+(IntKind.wrap .i64 (a1.toNat:Int)))))
else
((idx ([0,1,2,2,3,3,3,3,4,4,4,4,4,4,4,4,5,5,5,5,5,5,5,5,5,5,5,5,5,5,5,5,6,6,6,6,6,6,6,6,6,6,6,6,6,6,6,6,6,6,6,6,6,6,6,6,6,6,6,6,6,6,6,6,7,7,7,7,7,7,7,7,7,7,7,7,7,7,7,7,7,7,7,7,7,7,7,7,7,7,7,7,7,7,7,7,7,7,7,7,7,7,7,7,7,7,7,7,7,7,7,7,7,7,7,7,7,7,7,7,7,7,7,7,7,7,7,7,8,8,8,8,8,8,8,8,8,8,8,8,8,8,8,8,8,8,8,8,8,8,8,8,8,8,8,8,8,8,8,8,8,8,8,8,8,8,8,8,8,8,8,8,8,8,8,8,8,8,8,8,8,8,8,8,8,8,8,8,8,8,8,8,8,8,8,8,8,8,8,8,8,8,8,8,8,8,8,8,8,8,8,8,8,8,8,8,8,8,8,8,8,8,8,8,8,8,8,8,8,8,8,8,8,8,8,8,8,8,8,8,8,8,8,8,8,8,8,8,8,8,8,8,8,8,8,8]:Uy) (IntKind.wrap .u8 x1)).bind fun a2=>
 .ok (IntKind.wrap .i64 (n1+(IntKind.wrap .i64 (a2.toNat:Int)))))
def Pk (x:Int)(n:Int):R Int:=
 if x≥65536 then
(Qa (Int.fdiv x 65536) (IntKind.wrap .i64 (n+16)))
else
(Qa x n)
def Wk (a:Int):R Int:=
 if a≥4294967296 then
(Pk (Int.fdiv a 4294967296) 32)
else
(Pk a 0)
def Y7 (a:Int):R Int:=
 (Wk a).bind fun r=>
 .ok r
def Ga (n:Int):R Int:=
 (Y7 (IntKind.wrap .u64 (IntKind.wrap .i64 (n - 1)))).bind fun r=>
 if(0:Int)≤(IntKind.wrap .i64 (r - 1)) then .ok (S6 .i64 1 (IntKind.wrap .i64 (r - 1))) else .bad
def Mi (d:(Vector Int 32)):R (Vector Int 32):=
 (Hn [108,101,97,102] d.toList).bind fun r=>
 .ok r
def Kk (a:(Vector Int 32))(b:(Vector Int 32)):R (Vector Int 32):=
 (F6 [a.toList,b.toList]).bind fun r=>
 (Hn [110,111,100,101] r).bind fun r1=>
 .ok r1
def F5 (vat1:Int)(n1:Int)(first:List Bool):R ((Int×Int×(List Bool)) ⊕ (List Bool)):=
 if n1 > 1 then
((Ga n1).bind fun k=>
 if(first.length+[(decide (vat1<k))].length) * 1≤Bz then
 if vat1<k then
(.ok (.inl (vat1,k,(first++[(decide (vat1<k))]))))
else
(.ok (.inl ((IntKind.wrap .i64 (vat1 - k)),(IntKind.wrap .i64 (n1 - k)),(first++[(decide (vat1<k))])))) else .bad)
else
(.ok (.inr (first)))
def G0 (j:Nat)(a:(Vector Int 32))(o:(Vector Int 32))(first2:List Bool):R ((Vector Int 32)×(List Bool)):=
 (idx first2 (IntKind.wrap .i64 ((IntKind.wrap .i64 ((first2.length:Int) - 1)) - (j:Int)))).bind fun a1=>
 if a1 then
((Kk o a).bind fun r1=>
 .ok (r1,first2))
else
((Kk a o).bind fun r2=>
 .ok (r2,first2))
def Kp (d:(Vector Int 32))(p:(List (Vector Int 32)))(first1:List Bool):R ((Vector Int 32)×Int):=
 if((p.length:Int) != (first1.length:Int)) then
(.ok ((Bw 32 0),1))
else
((Mi d).bind fun r=>
 (eachS (fun j a=>Da fun o first2=>G0 j a o first2) 0 p (r,first1)).bind ((Da fun o first2=>.ok (o,0))))
def Mp (d:(Vector Int 32))(vat:Int)(n:Int)(p:(List (Vector Int 32))):R ((Vector Int 32)×Int):=
 if((((decide (n<1))||(decide (n > 1099511627776)))||(decide (vat<0)))||(decide (vat≥n))) then
(.ok ((Bw 32 0),1))
else
((loop (Tg fun vat1 n1 first=>F5 vat1 n1 first) (vat,n,[])).bind (fun first1=>Kp d p first1))
def Hi (d:(Vector Int 32))(tables:Int)(o:Opening)(x:Int)(r3:((Vector Int 32)×Int))(x1:Int):R (Int ⊕ (Unit ⊕ Int)):=
 if x1<tables then
((Mp r3.1 x1 tables (o.Path.drop (Int.toNat x))).bind fun r4=>
 if((r4.2==0)&&(r4.1==d)) then
(.ok (.inr (.inr (0))))
else
(.ok (.inl (IntKind.wrap .i64 (x1+1)))))
else
(.ok (.inr (.inl (()))))
def Hd (x:Int):R (Int ⊕ (Unit ⊕ Int)):=
 .ok (.inl (IntKind.wrap .i64 (x+1)))
def Hf (d:(Vector Int 32))(tables:Int)(slots:Int)(o:Opening)(r2:(Vector Int 32))(x:Int):R (Int ⊕ (Unit ⊕ Int)):=
 if x<(IntKind.wrap .i64 ((o.Path.length:Int)+1)) then
(if(0:Int)≤x∧x≤(o.Path.length:Int) then
 if(0:Int)≤x∧x≤(o.Path.length:Int) then
 (Mp r2 o.Slot slots (o.Path.take (Int.toNat x))).bind fun r3=>
 if(r3.2 != 0) then
(.ok (.inl (IntKind.wrap .i64 (x+1))))
else
((loop (fun x1=>Hi d tables o x r3 x1) 0).bind (alt (fun _=>Hd x) (fun r=>.ok (.inr (.inr (r)))))) else .bad else .bad)
else
(.ok (.inr (.inl (()))))
def K7:R Int:=
 .ok 360
def Jc (d:(Vector Int 32))(airline:Int)(tables:Int)(slots:Int)(o:Opening):R Int:=
 (if(((((decide (tables<1))||(decide (tables > 8)))||(decide (slots<1)))||(decide (slots > 8)))||(o.Airline != airline)) then R.ok true else(Jy o.Airline o.Flight).bind fun r=>
 R.ok (!r)).bind (fun(b:Bool)=>(if((b||(decide (o.Slot<0)))||(decide (o.Slot≥slots))) then R.ok true else(Kt o.Cost).bind fun r1=>
 R.ok (!r1)).bind (fun(b1:Bool)=>if b1 then
(.ok 360)
else
((Gy o.Salt [o.Airline,o.Flight,o.Slot,o.Cost]).bind fun r2=>
 (loop (fun x=>Hf d tables slots o r2 x) 0).bind (alt (fun _=>K7) (fun r=>.ok r)))))
def Jf (c:Clearing)(o:Opening)(x:Bool):R Int:=
 if x then
(.ok 400)
else
((Fk c.Owners).bind fun r=>
 (F9 r.1 o.Airline).bind fun r1=>
 (idx c.Commitments r1).bind fun a1=>
 (Jc a1 o.Airline (Option.getD (D0 r.2 o.Airline) 0) c.Slots o).bind fun r2=>
 .ok r2)
def Hx (c:Clearing)(o:Opening):R Int:=
 (F9 c.Flights o.Flight).bind fun i=>
 if(decide (i<0)) then
(Jf c o true)
else
((idx c.Owners i).bind fun a=>
 Jf c o (a != o.Airline))
def Gd (x1:Bool):R (Unit ⊕ Bool):=
 if x1 then
(.ok (.inr (false)))
else
(.ok (.inl ()))
def Iu (c:Clearing)(j:Nat)(a:Opening):R (Unit ⊕ Bool):=
 if(decide ((j:Int) > 0)) then
((idx c.Openings (IntKind.wrap .i64 ((j:Int) - 1))).bind fun a1=>
 (Mk a1 a).bind fun r=>
 if(decide (r≥0)) then
(Gd true)
else
((Hx c a).bind fun r1=>
 Gd (r1 != 0)))
else
((Hx c a).bind fun r2=>
 Gd (r2 != 0))
def Lg (c:Clearing):R Bool:=
 (each (fun j a=>fun _=>Iu c j a) 0 c.Openings ()).bind (alt (fun _=>.ok true) (fun r=>.ok r))
def L5 (c:Clearing):R Bool:=
 (Fl c).bind fun r=>
 (if r then(Lg c).bind fun r1=>
 R.ok r1 else R.ok false).bind (fun(b:Bool)=>.ok (b&&((c.Outcome.length:Int)==0)))
def Hu (s:List Opening)(n:Int):R Unit:=
 if n<1 then
(.pan ⟨9,.str [99,97,110,110,111,116,32,98,101,32,108,101,115,115,32,116,104,97,110,32,49]⟩)
else
(.ok ())
section
variable {σ_:Type}
def D1 (b:List Opening)(c:Int)(b_:(List Opening)→σ_→R σ_)(i:Int)(s:σ_):R ((Int×σ_) ⊕ σ_):=
 if i<(b.length:Int) then
(if(0:Int)≤i∧i≤(b.length:Int) then
 if(0:Int)≤i∧i≤(IntKind.wrap .i64 (i+(if((b.drop (Int.toNat i)).length:Int)<c then((b.drop (Int.toNat i)).length:Int) else c)))∧(IntKind.wrap .i64 (i+(if((b.drop (Int.toNat i)).length:Int)<c then((b.drop (Int.toNat i)).length:Int) else c)))≤(b.length:Int) then
 (b_ (cut b i (IntKind.wrap .i64 (i+(if((b.drop (Int.toNat i)).length:Int)<c then((b.drop (Int.toNat i)).length:Int) else c)))) s).bind fun s1=>
 .ok (.inl ((IntKind.wrap .i64 (i+c)),s1)) else .bad else .bad)
else
(.ok (.inr (s)))
def Hq (s2:σ_):R σ_:=
 .ok s2
def Ew (b:List Opening)(c:Int)(b_:(List Opening)→σ_→R σ_)(s_:σ_):R σ_:=
 (loop (Da fun i s=>D1 b c b_ i s) (0,s_)).bind (fun s2=>Hq s2)
end
def J5 (a1:Opening)(costs:List Int):R (List Int):=
 if(costs.length+[a1.Cost].length) * 8≤Bz then
 .ok (costs++[a1.Cost]) else .bad
def Ij (a:List Opening)(l:(List (List Int))):R (List (List Int)):=
 (eachS (fun _ a1=>fun costs=>J5 a1 costs) 0 a []).bind ((fun costs=>if(l.length+[costs].length) * 24≤Bz then
 .ok (l++[costs]) else .bad))
def Ji (c:Clearing):R (Round×Bool):=
 if((c.Openings.length:Int) != (IntKind.wrap .i64 ((c.Flights.length:Int) * c.Slots))) then
(.ok (({ Slots:=0,Owners:=[],Costs:=[] }:Round),false))
else
((Hu c.Openings c.Slots).bind fun _=>
 (Ew c.Openings c.Slots (fun a z_=>R.np ((fun l=>Ij a l) z_)) []).bind (fun l=>.ok (({ Slots:=c.Slots,Owners:=c.Owners,Costs:=l }:Round),true)))
def Kg (n:Int)(most:Int):R Bool:=
 .ok ((decide (n<0))||(decide (n > most)))
def Ml (c:Int):R Bool:=
 (Kg (IntKind.wrap .i64 (c+1)) 1048577).bind fun r=>
 .ok r
def Ho (j:Nat)(a:Int):R (Unit ⊕ Int):=
 (Ml a).bind fun r=>
 if r then
(.ok (.inr ((j:Int))))
else
(.ok (.inl ()))
def I7 (s:List Int):R Int:=
 (each (fun j a=>fun _=>Ho j a) 0 s ()).bind (alt (fun _=>.ok (-1)) (fun r=>.ok r))
def F0 (s:List Int):R Bool:=
 (I7 s).bind fun r=>
 .ok (decide (r≥0))
def Iw (x1:Bool):R (Unit ⊕ Int):=
 if x1 then
(.ok (.inr (370)))
else
(.ok (.inl ()))
def J3 (r:Round)(j:Nat)(a:List Int):R (Unit ⊕ Int):=
 (idx r.Owners (j:Int)).bind fun a1=>
 (Kg a1 7).bind fun r1=>
 if r1 then
(Iw true)
else
(if((a.length:Int) != r.Slots) then
(Iw true)
else
((idx a (j:Int)).bind fun a2=>
 if(decide (a2<0)) then
(Iw true)
else
((F0 a).bind fun r2=>
 Iw r2)))
def Kv (r:Round):R Int:=
 if((((decide (r.Slots<1))||(decide (r.Slots > 8)))||(decide ((r.Owners.length:Int) > r.Slots)))||((r.Costs.length:Int) != (r.Owners.length:Int))) then
(.ok 370)
else
((each (fun j a=>fun _=>J3 r j a) 0 r.Costs ()).bind (alt (fun _=>.ok 0) (fun r=>.ok r)))
def Hz (r:Round):R Unit:=
 .ok ()
def Pu (s:List Int):R (List Int):=
 if(0:Int)≤(s.length:Int)∧(s.length:Int)≤(s.length:Int) then
 .ok (s.take (Int.toNat (s.length:Int))) else .bad
section
variable {σ_:Type}
def Gj (x:Int)(m2:(List (Int×Bool)))(s2:σ_):R ((Int×(List (Int×Bool))×σ_) ⊕ ((List (Int×Bool))×σ_)):=
 .ok (.inl ((IntKind.wrap .i64 (x+1)),(L4 m2 x false),s2))
def C9 (slots:List Int)(b:Round)(c:Round)(W_:(List Int)→Round→(List (Int×Bool))→Round→σ_→R ((List (Int×Bool))×σ_))(x:Int)(m1:(List (Int×Bool)))(s1:σ_):R ((Int×(List (Int×Bool))×σ_) ⊕ ((List (Int×Bool))×σ_)):=
 if x<b.Slots then
((if(Option.getD (D0 m1 x) false) then R.ok true else(idx b.Costs (slots.length:Int)).bind fun a=>
 (idx a x).bind fun a1=>
 R.ok (decide (a1<0))).bind (fun(b1:Bool)=>if b1 then
(.ok (.inl ((IntKind.wrap .i64 (x+1)),m1,s1)))
else
((Pu slots).bind fun r=>
 if [x].length≠0∧(r.length+[x].length) * 8≤Bz then
 (W_ (r++[x]) c (L4 m1 x true) c s1).bind fun r1=>
 Gj x r1.1 r1.2 else .bad)))
else
(.ok (.inr ((m1,s1))))
def Gi (m3:(List (Int×Bool)))(s3:σ_):R ((List (Int×Bool))×σ_):=
 .ok (m3,s3)
def Eb (W_:(List Int)→Round→(List (Int×Bool))→Round→σ_→R ((List (Int×Bool))×σ_))(slots:List Int)(b:Round)(m:(List (Int×Bool)))(c:Round)(b_:(List Int)→σ_→R σ_)(s_:σ_):R ((List (Int×Bool))×σ_):=
 if((slots.length:Int)==(b.Owners.length:Int)) then
((b_ slots s_).bind fun s=>
 .ok (m,s))
else
((loop (Tg fun x m1 s1=>C9 slots b c W_ x m1 s1) (0,m,s_)).bind (Da fun m3 s3=>Gi m3 s3))
def Di (b_:(List Int)→σ_→R σ_):Nat→(List Int)→Round→(List (Int×Bool))→Round→σ_→R ((List (Int×Bool))×σ_)
 | 0,_,_,_,_,_=>.bad
 | n+1,slots,b,m,c,s_=>R.np (Eb (Di b_ n) slots b m c b_ s_)
def Fx (slots:List Int)(b:Round)(m:(List (Int×Bool)))(c:Round)(b_:(List Int)→σ_→R σ_)(s_:σ_):R ((List (Int×Bool))×σ_):=Di b_ Wl slots b m c s_
end
section
variable {σ_:Type}
def Em (b:Round)(b_:(List Int)→σ_→R σ_)(s_:σ_):R σ_:=
 (Fx [] b [] b b_ s_).bind fun r=>
 .ok r.2
def Fa (b:Round)(b_:(List Int)→σ_→R σ_)(s_:σ_):R σ_:=R.np (Em b b_ s_)
end
def Nk (r:Round)(j:Nat)(a:Int)(v1:List Int):R (List Int):=
 (idx v1 0).bind fun a1=>
 (idx r.Costs (j:Int)).bind fun a2=>
 (idx a2 a).bind fun a3=>
 if(a != (j:Int)) then
((idx (v1.set (Int.toNat 0) (IntKind.wrap .i64 (a1+a3))) 1).bind fun a4=>
 .ok ((v1.set (Int.toNat 0) (IntKind.wrap .i64 (a1+a3))).set 1 (IntKind.wrap .i64 (a4+1))))
else
(.ok (v1.set (Int.toNat 0) (IntKind.wrap .i64 (a1+a3))))
def Lx (r:Round)(slots:List Int):R (List Int):=
 (eachS (fun j a=>fun v1=>Nk r j a v1) 0 slots [0,0]).bind ((fun v1=>.ok v1))
def J1 (s2:List Int)(j:Nat)(a:Int):R (Unit ⊕ Int):=
 if(j:Int)≥(s2.length:Int) then
(.ok (.inr (1)))
else
((idx s2 (j:Int)).bind fun a1=>
 (Jh a a1).bind fun c=>
 if(c != 0) then
(.ok (.inr (c)))
else
(.ok (.inl ())))
def Ke (s1:List Int)(s2:List Int):R Int:=
 (each (fun j a=>fun _=>J1 s2 j a) 0 s1 ()).bind (alt (fun _=>if(s1.length:Int)<(s2.length:Int) then
(.ok (-1))
else
(.ok 0)) (fun r=>.ok r))
def Fp (s:List Int)(v:Int):R Bool:=
 (F9 s v).bind fun r=>
 .ok (decide (r≥0))
def F8 (r:Round)(slots:List Int)(j:Nat)(a:Int):R (Unit ⊕ Bool):=
 (if((decide (a<0))||(decide (a≥r.Slots))) then R.ok true else(idx r.Costs (j:Int)).bind fun a1=>
 (idx a1 a).bind fun a2=>
 R.ok (decide (a2<0))).bind (fun(b:Bool)=>(if b then R.ok true else if(0:Int)≤(j:Int)∧(j:Int)≤(slots.length:Int) then
 (Fp (slots.take (Int.toNat (j:Int))) a).bind fun r1=>
 R.ok r1 else .bad).bind (fun(b1:Bool)=>if b1 then
(.ok (.inr (false)))
else
(.ok (.inl ()))))
def Je (r:Round)(slots:List Int):R Bool:=
 if((slots.length:Int) != (r.Owners.length:Int)) then
(.ok false)
else
((each (fun j a=>fun _=>F8 r slots j a) 0 slots ()).bind (alt (fun _=>.ok true) (fun r=>.ok r)))
def Nj (r:Round)(slots:List Int):R (Bool×Int):=
 (Kv r).bind fun e=>
 if(e != 0) then
(.ok (false,e))
else
((Je r slots).bind fun ok=>
 .ok (ok,0))
def M4 (r:Round)(slots:List Int):R Int:=
 (Nj r slots).bind fun r1=>
 if((r1.2 != 0)||(!r1.1)) then
(.ok 370)
else
(.ok 0)
def Ly (j:Nat)(l:List Int):R (List Int):=
 if(l.length+[(j:Int)].length) * 8≤Bz then
 .ok (l++[(j:Int)]) else .bad
def I1 (r:Round):R (List Int):=
 (eachS (fun j _=>fun l=>Ly j l) 0 r.Owners []).bind ((fun l=>.ok l))
def Mt (r:Round)(slots:List Int)(j:Nat)(a:Int)(out:List Int):R (List Int):=
 (idx r.Owners a).bind fun a1=>
 (idx out a1).bind fun a2=>
 (idx r.Costs a).bind fun a3=>
 (idx slots (j:Int)).bind fun a4=>
 (idx a3 a4).bind fun a5=>
 .ok (out.set (Int.toNat a1) (IntKind.wrap .i64 (a2+a5)))
def G1 (r:Round)(flights:List Int)(slots:List Int):R (List Int):=
 if(0:Int)≤8∧(8:Int)≤8∧(Int.toNat 8) * 8≤Bz then
 (eachS (fun j a=>fun out=>Mt r slots j a out) 0 flights (List.replicate (Int.toNat 8) (0:Int))).bind ((fun out=>.ok out)) else .bad
def Kh (before:List Int)(j:Nat)(a:Int)(l:List Int):R (List Int):=
 (idx before (j:Int)).bind fun a1=>
 if a > a1 then
(if(l.length+[(j:Int)].length) * 8≤Bz then
 .ok (l++[(j:Int)]) else .bad)
else
(.ok l)
def K9 (r:Round)(slots:List Int):R ((List Int)×Int):=
 (M4 r slots).bind fun e=>
 if(e != 0) then
(.ok ([],e))
else
((I1 r).bind fun r1=>
 (I1 r).bind fun r2=>
 (G1 r r1 r2).bind fun before=>
 (I1 r).bind fun r3=>
 (G1 r r3 slots).bind fun r4=>
 (eachS (fun j a=>fun l=>Kh before j a l) 0 r4 []).bind ((fun l=>.ok (l,0))))
def Ge (r:Round)(l:List Int):R Unit:=
 .ok ()
def Hh (s:List Int):R (List Int):=if s.length * 8≤Bz then .ok s else .bad
section
variable {σ_ ε_:Type}
def Ct (s3:σ_):R (σ_ ⊕ (σ_ ⊕ ε_)):=
 .ok (.inl s3)
def D3 (begin:List Int)(b:List Int)(d:Round)(c:List Int)(c1:Round)(W_:(List Int)→(List Int)→Round→(List Int)→Round→σ_→R (σ_ ⊕ ε_))(a:Int)(s1:σ_):R (σ_ ⊕ (σ_ ⊕ ε_)):=
 (idx b (begin.length:Int)).bind fun a1=>
 (idx d.Costs a1).bind fun a2=>
 (idx a2 a).bind fun a3=>
 if(decide (a3≥0)) then
((Fp begin a).bind fun r1=>
 if(!r1) then
(if(0:Int)≤(begin.length:Int)∧(begin.length:Int)≤(begin.length:Int) then
 if [a].length≠0∧((begin.take (Int.toNat (begin.length:Int))).length+[a].length) * 8≤Bz then
 (W_ ((begin.take (Int.toNat (begin.length:Int)))++[a]) c c1 c c1 s1).bind (alt (fun s2=>
 Ct s2) (fun e1=>
 .ok (.inr ((Sum.inr (α:=σ_) e1))))) else .bad else .bad)
else
(Ct s1))
else
(Ct s1)
def Ee (W_:(List Int)→(List Int)→Round→(List Int)→Round→σ_→R (σ_ ⊕ ε_))(begin:List Int)(b:List Int)(d:Round)(c:List Int)(c1:Round)(b_:(List Int)→σ_→R (σ_ ⊕ ε_))(s_:σ_):R (σ_ ⊕ ε_):=
 if((begin.length:Int)==(b.length:Int)) then
((Hh begin).bind fun r=>
 (b_ r s_).bind (alt (fun s=>
 .ok (Sum.inl (β:=ε_) s)) (fun e=>
 .ok (Sum.inr (α:=σ_) e))))
else
((each (fun _ a=>fun s1=>D3 begin b d c c1 W_ a s1) 0 b s_).bind (alt (fun s1=>.ok (Sum.inl (β:=ε_) s1)) (fun r=>.ok r)))
def Dh (b_:(List Int)→σ_→R (σ_ ⊕ ε_)):Nat→(List Int)→(List Int)→Round→(List Int)→Round→σ_→R (σ_ ⊕ ε_)
 | 0,_,_,_,_,_,_=>.bad
 | n+1,begin,b,d,c,c1,s_=>R.np (Ee (Dh b_ n) begin b d c c1 b_ s_)
def Fy (begin:List Int)(b:List Int)(d:Round)(c:List Int)(c1:Round)(b_:(List Int)→σ_→R (σ_ ⊕ ε_))(s_:σ_):R (σ_ ⊕ ε_):=Dh b_ Wl begin b d c c1 s_
end
section
variable {σ_ ε_:Type}
def Eo (b:List Int)(c:Round)(b_:(List Int)→σ_→R (σ_ ⊕ ε_))(s_:σ_):R (σ_ ⊕ ε_):=
 (Fy [] b c b c b_ s_).bind (alt (fun s=>
 .ok (Sum.inl (β:=ε_) s)) (fun e=>
 .ok (Sum.inr (α:=σ_) e)))
def D9 (b:List Int)(c:Round)(b_:(List Int)→σ_→R (σ_ ⊕ ε_))(s_:σ_):R (σ_ ⊕ ε_):=R.np (Eo b c b_ s_)
end
def H3 (group:List Int)(j:Nat)(a:Int)(l:List Int):R (List Int):=
 (Fp group a).bind fun r1=>
 if r1 then
(if(l.length+[(j:Int)].length) * 8≤Bz then
 .ok (l++[(j:Int)]) else .bad)
else
(.ok l)
def Lq (than:List Int)(now:List Int)(a2:Int):R (Unit ⊕ Unit):=
 (idx now a2).bind fun a3=>
 (idx than a2).bind fun a4=>
 if a3≥a4 then
(.ok (.inr (())))
else
(.ok (.inl ()))
def Lr:R (Unit ⊕ (List Int)):=
 .ok (.inl ())
def Gm (r:Round)(than:List Int)(group:List Int)(l:List Int)(a1:List Int):R (Unit ⊕ (List Int)):=
 (G1 r l a1).bind fun now=>
 (each (fun _ a2=>fun _=>Lq than now a2) 0 group ()).bind (alt (fun _=>.ok (.inr a1)) (fun _=>Lr))
def Iy (r:Round)(than:List Int)(group:List Int):R ((List Int)×Bool):=
 (eachS (fun j a=>fun l=>H3 group j a l) 0 r.Owners []).bind ((fun l=>(Ge r l).bind fun _=>
 (D9 l r (fun a1 z_=>R.np ((fun _=>Gm r than group l a1) z_)) ()).bind (alt (fun _=>.ok ([],false)) (fun o=>.ok (o,true)))))
def H5 (r:Round)(j:Nat)(j1:Nat)(group:List Int):R ((List Int) ⊕ Unit):=
 if(0:Int)≤(j1:Int) then if((Ey .i64 (Q5 .i64 (j:Int) (j1:Int)) 1)==0) then
(.ok (.inl group))
else
((Fp r.Owners (j1:Int)).bind fun r3=>
 if r3 then
(if(group.length+[(j1:Int)].length) * 8≤Bz then
 .ok (.inl (group++[(j1:Int)])) else .bad)
else
(.ok (.inr (())))) else .bad
def Dq:R (Unit ⊕ (Bool×Int)):=
 .ok (.inl ())
def H6 (r:Round)(than:List Int)(j:Nat):R (Unit ⊕ (Bool×Int)):=
 (each (fun j1 _=>fun group=>H5 r j j1 group) 0 (List.range 8) []).bind (alt (fun group=>if((group.length:Int)==0) then
(Dq)
else
((Iy r than group).bind fun r4=>
 if r4.2 then
(.ok (.inr ((false,0))))
else
(Dq))) (fun _=>Dq))
def Ec (r:Round)(slots:List Int):R (Bool×Int):=
 (K9 r slots).bind fun r1=>
 if((r1.2 != 0)||(decide ((r1.1.length:Int) > 0))) then
(.ok (false,r1.2))
else
((I1 r).bind fun r2=>
 (G1 r r2 slots).bind fun than=>
 (each (fun j _=>fun _=>H6 r than j) 0 (List.range 256) ()).bind (alt (fun _=>.ok (true,0)) (fun r=>.ok r)))
def In (r:Round)(a:List Int)(o:List Int)(o1:List Int):R ((List Int)×(List Int)):=
 (Lx r a).bind fun v=>
 (if(!List.isEmpty o1) then(Ke v o1).bind fun r2=>
 R.ok (decide (r2≥0)) else R.ok false).bind (fun(b:Bool)=>if b then
(.ok (o,o1))
else
((Ec r a).bind fun r3=>
 if((r3.2==0)&&r3.1) then
((Hh a).bind fun r4=>
 if v.length≠0 then
 .ok (r4,v) else .bad)
else
(.ok (o,o1))))
def Nh (r:Round):R ((List Int)×Int):=
 (Kv r).bind fun e=>
 if(e != 0) then
(.ok ([],e))
else
((Hz r).bind fun _=>
 (Fa r (fun a z_=>R.np ((Da fun o o1=>In r a o o1) z_)) ([],[])).bind (Da fun o o1=>if(List.isEmpty o1) then
(.ok ([],380))
else
(.ok (o,0))))
def Kr (j:Nat)(outcome:List Int):R (List Int):=
 if(outcome.length+[(j:Int)].length) * 8≤Bz then
 .ok (outcome++[(j:Int)]) else .bad
def K5 (r:Round):R ((List Int)×Int):=
 (Nh r).bind fun r1=>
 if(r1.2==0) then
(.ok (r1.1,3))
else
((eachS (fun j _=>fun outcome=>Kr j outcome) 0 r.Owners []).bind ((fun outcome=>.ok (outcome,4))))
def Ls (s2:List Int)(j:Nat)(a:Int):R (Unit ⊕ Bool):=
 (idx s2 (j:Int)).bind fun a1=>
 if(a != a1) then
(.ok (.inr (false)))
else
(.ok (.inl ()))
def Lw (s1:List Int)(s2:List Int):R Bool:=
 if((s1.length:Int) != (s2.length:Int)) then
(.ok false)
else
((each (fun j a=>fun _=>Ls s2 j a) 0 s1 ()).bind (alt (fun _=>.ok true) (fun r=>.ok r)))
def Jj (c:Clearing):R Bool:=
 (Fl c).bind fun r=>
 (if(!r) then R.ok true else(Lg c).bind fun r1=>
 R.ok (!r1)).bind (fun(b:Bool)=>if b then
(.ok false)
else
((Ji c).bind fun r2=>
 if r2.2 then
((K5 r2.1).bind fun r3=>
 (if(r3.2==c.Phase) then(Lw r3.1 c.Outcome).bind fun r4=>
 R.ok r4 else R.ok false).bind (fun(b1:Bool)=>.ok b1))
else
(.ok false)))
def Cv (x:Bool):R Int:=
 if x then
(.ok 400)
else
(.ok 0)
def Hr (c:Clearing):R Int:=
 (Ng c).bind fun r=>
 if(!r) then
(Cv true)
else
(if(decide (c.Phase<1)) then
(Cv true)
else
(if(decide (c.Phase > 4)) then
(Cv true)
else
(if c.Phase=0 then
(.bad)
else
(if c.Phase=1 then
((Og c).bind fun r1=>
 Cv (!r1))
else
(if c.Phase=2 then
((L5 c).bind fun r2=>
 Cv (!r2))
else
(if c.Phase=3 then
((Jj c).bind fun r3=>
 Cv (!r3))
else
(if c.Phase=4 then
((Jj c).bind fun r4=>
 Cv (!r4))
else
(.bad))))))))
def T5 (no:Int)(slots:Int)(owners:List Int)(flights:List Int):R (Clearing×Int):=
 (Fk owners).bind fun r=>
 if(0:Int)≤(r.1.length:Int)∧((r.1.length:Int):Int)≤(r.1.length:Int)∧(Int.toNat (r.1.length:Int)) * 32≤Bz then
 (Hr ({ No:=no,Phase:=1,Slots:=slots,Owners:=owners,Flights:=flights,Commitments:=(List.replicate (Int.toNat (r.1.length:Int)) (Bw 32 0)),Openings:=[],Outcome:=[] }:Clearing)).bind fun e=>
 if(e != 0) then
(.ok (({ No:=0,Phase:=0,Slots:=0,Owners:=[],Flights:=[],Commitments:=[],Openings:=[],Outcome:=[] }:Clearing),e))
else
(.ok (({ No:=no,Phase:=1,Slots:=slots,Owners:=owners,Flights:=flights,Commitments:=(List.replicate (Int.toNat (r.1.length:Int)) (Bw 32 0)),Openings:=[],Outcome:=[] }:Clearing),0)) else .bad
def S5 (c:Int):R Bool:=
 (Kt c).bind fun r=>
 .ok (!r)
def Jw (j:Nat)(a:Int):R (Unit ⊕ Int):=
 (S5 a).bind fun r=>
 if r then
(.ok (.inr ((j:Int))))
else
(.ok (.inl ()))
def O6 (s:List Int):R Int:=
 (each (fun j a=>fun _=>Jw j a) 0 s ()).bind (alt (fun _=>.ok (-1)) (fun r=>.ok r))
def Nc (s:List Int):R Bool:=
 (O6 s).bind fun r=>
 .ok (decide (r≥0))
def Va (t:Table):R Int:=
 (Jy t.Airline t.Flight).bind fun r=>
 (if(((!r)||(decide ((t.Costs.length:Int)<1)))||(decide ((t.Costs.length:Int) > 8))) then R.ok true else(Nc t.Costs).bind fun r1=>
 R.ok r1).bind (fun(b:Bool)=>if b then
(.ok 360)
else
(.ok 0))
def H4 (x1:Bool):R (Unit ⊕ Bool):=
 if x1 then
(.ok (.inr (false)))
else
(.ok (.inl ()))
def Ov (l:List Table)(j:Nat)(a:Table):R (Unit ⊕ Bool):=
 (Va a).bind fun r=>
 if(r != 0) then
(H4 true)
else
((idx l 0).bind fun a1=>
 if(a.Airline != a1.Airline) then
(H4 true)
else
(if((a.Costs.length:Int) != (a1.Costs.length:Int)) then
(H4 true)
else
(if(decide ((j:Int) > 0)) then
((idx l (IntKind.wrap .i64 ((j:Int) - 1))).bind fun a2=>
 H4 (decide (a.Flight≤a2.Flight)))
else
(H4 false))))
def L7 (l:List Table):R Bool:=
 if((decide ((l.length:Int)<1))||(decide ((l.length:Int) > 8))) then
(.ok false)
else
((each (fun j a=>fun _=>Ov l j a) 0 l ()).bind (alt (fun _=>.ok true) (fun r=>.ok r)))
def Lt (t:Table):R Unit:=
 .ok ()
section
variable {σ_:Type}
def G8 (b:Table)(b_:(Vector Int 32)→σ_→R σ_)(j:Nat)(a:Int)(s:σ_):R σ_:=
 (Gy b.Salt [b.Airline,b.Flight,(j:Int),a]).bind fun r=>
 (b_ r s).bind fun s1=>
 .ok s1
def I4 (b:Table)(b_:(Vector Int 32)→σ_→R σ_)(s_:σ_):R σ_:=
 (eachS (fun j a=>fun s=>G8 b b_ j a s) 0 b.Costs s_).bind ((fun s=>.ok s))
end
def Nu (a:(Vector Int 32))(l:(List (Vector Int 32))):R (List (Vector Int 32)):=
 if(l.length+[a].length) * 32≤Bz then
 .ok (l++[a]) else .bad
def Lc (t:Table):R (List (Vector Int 32)):=
 (Lt t).bind fun _=>
 (I4 t (fun a z_=>R.np ((fun l=>Nu a l) z_)) []).bind (fun l=>.ok l)
def Sp (W_:(List (Vector Int 32))→R (Vector Int 32))(l:(List (Vector Int 32))):R (Vector Int 32):=
 if((l.length:Int)==0) then
((Hn [101,109,112,116,121] []).bind fun r=>
 .ok r)
else
(if((l.length:Int)==1) then
((idx l 0).bind fun a=>
 (Mi a).bind fun r1=>
 .ok r1)
else
((Ga (l.length:Int)).bind fun n=>
 if(0:Int)≤n∧n≤(l.length:Int) then
 if(0:Int)≤n∧n≤(l.length:Int) then
 (W_ (l.take (Int.toNat n))).bind fun r2=>
 (W_ (l.drop (Int.toNat n))).bind fun r3=>
 (Kk r2 r3).bind fun r4=>
 .ok r4 else .bad else .bad))
def Sq:Nat→(List (Vector Int 32))→R (Vector Int 32)
 | 0,_=>.bad
 | n+1,l=>Sp (Sq n) l
def Qp (l:(List (Vector Int 32))):R (Vector Int 32):=Sq Wl l
def Ih (a:Table)(d:(List (Vector Int 32))):R (List (Vector Int 32)):=
 (Lc a).bind fun r=>
 (Qp r).bind fun r1=>
 if(d.length+[r1].length) * 32≤Bz then
 .ok (d++[r1]) else .bad
def Iq (l:List Table):R (List (Vector Int 32)):=
 (eachS (fun _ a=>fun d=>Ih a d) 0 l []).bind ((fun d=>.ok d))
def Nm (l:List Table):R ((Vector Int 32)×Int):=
 (L7 l).bind fun r=>
 if r then
((Iq l).bind fun r1=>
 (Qp r1).bind fun r2=>
 .ok (r2,0))
else
(.ok ((Bw 32 0),360))
def Ot (s:List (Vector Int 32)):R (List (Vector Int 32)):=if s.length * 32≤Bz then .ok s else .bad
def Pd (c:Clearing)(airline:Int)(d:(Vector Int 32)):R (Clearing×Int):=
 (Hr c).bind fun e=>
 if(e != 0) then
(.ok (({ No:=0,Phase:=0,Slots:=0,Owners:=[],Flights:=[],Commitments:=[],Openings:=[],Outcome:=[] }:Clearing),e))
else
((Fk c.Owners).bind fun r=>
 (F9 r.1 airline).bind fun i=>
 if((decide (i<0))||(d==(#v[0,0,0,0,0,0,0,0,0,0,0,0,0,0,0,0,0,0,0,0,0,0,0,0,0,0,0,0,0,0,0,0]:(Vector Int 32)))) then
(.ok (({ No:=0,Phase:=0,Slots:=0,Owners:=[],Flights:=[],Commitments:=[],Openings:=[],Outcome:=[] }:Clearing),400))
else
((idx c.Commitments i).bind fun a=>
 if(a==d) then
(.ok (c,0))
else
(if(a==(#v[0,0,0,0,0,0,0,0,0,0,0,0,0,0,0,0,0,0,0,0,0,0,0,0,0,0,0,0,0,0,0,0]:(Vector Int 32))) then
((Ot c.Commitments).bind fun r1=>
 (idx r1 i).bind fun a1=>
 (Fl ({ No:=c.No,Phase:=c.Phase,Slots:=c.Slots,Owners:=c.Owners,Flights:=c.Flights,Commitments:=(r1.set (Int.toNat i) d),Openings:=c.Openings,Outcome:=c.Outcome }:Clearing)).bind fun r2=>
 if r2 then
(.ok (({ No:=c.No,Phase:=2,Slots:=c.Slots,Owners:=c.Owners,Flights:=c.Flights,Commitments:=(r1.set (Int.toNat i) d),Openings:=c.Openings,Outcome:=c.Outcome }:Clearing),0))
else
(.ok (({ No:=c.No,Phase:=c.Phase,Slots:=c.Slots,Owners:=c.Owners,Flights:=c.Flights,Commitments:=(r1.set (Int.toNat i) d),Openings:=c.Openings,Outcome:=c.Outcome }:Clearing),0)))
else
(.ok (({ No:=0,Phase:=0,Slots:=0,Owners:=[],Flights:=[],Commitments:=[],Openings:=[],Outcome:=[] }:Clearing),400)))))
def Hp (i:Int)(j:Int)(s:(List (Vector Int 32))):R ((Int×Int×(List (Vector Int 32))) ⊕ (List (Vector Int 32))):=
 if i<j then
((idx s j).bind fun a=>
 (idx s i).bind fun a1=>
 (idx (s.set (Int.toNat i) a) j).bind fun a2=>
 .ok (.inl ((IntKind.wrap .i64 (i+1)),(IntKind.wrap .i64 (j - 1)),((s.set (Int.toNat i) a).set (Int.toNat j) a1))))
else
(.ok (.inr (s)))
def Hl (l1:(List (Vector Int 32))):R (List (Vector Int 32)):=
 .ok l1
def G9 (l:(List (Vector Int 32))):R (List (Vector Int 32)):=
 (loop (Tg fun i j s=>Hp i j s) (0,(IntKind.wrap .i64 ((l.length:Int) - 1)),l)).bind (fun l1=>Hl l1)
def Oc (l1:(List (Vector Int 32)))(vat1:Int)(p:(List (Vector Int 32))):R (((List (Vector Int 32))×Int×(List (Vector Int 32))) ⊕ (List (Vector Int 32))):=
 if(l1.length:Int) > 1 then
((Ga (l1.length:Int)).bind fun n=>
 if vat1<n then
(if(0:Int)≤n∧n≤(l1.length:Int) then
 if(0:Int)≤n∧n≤(l1.length:Int) then
 (Qp (l1.drop (Int.toNat n))).bind fun r=>
 if(p.length+[r].length) * 32≤Bz then
 .ok (.inl ((l1.take (Int.toNat n)),vat1,(p++[r]))) else .bad else .bad else .bad)
else
(if(0:Int)≤n∧n≤(l1.length:Int) then
 if(0:Int)≤n∧n≤(l1.length:Int) then
 (Qp (l1.take (Int.toNat n))).bind fun r1=>
 if(p.length+[r1].length) * 32≤Bz then
 .ok (.inl ((l1.drop (Int.toNat n)),(IntKind.wrap .i64 (vat1 - n)),(p++[r1]))) else .bad else .bad else .bad))
else
(.ok (.inr (p)))
def N9 (p1:(List (Vector Int 32))):R ((List (Vector Int 32))×Int):=
 (G9 p1).bind fun r2=>
 .ok (r2,0)
def Sx (l:(List (Vector Int 32)))(vat:Int):R ((List (Vector Int 32))×Int):=
 if((decide (vat<0))||(decide (vat≥(l.length:Int)))) then
(.ok ([],1))
else
((loop (Tg fun l1 vat1 p=>Oc l1 vat1 p) (l,vat,[])).bind (fun p1=>N9 p1))
def K3 (n:Int):R (List (Vector Int 32)):=
 if n<0 then
(.pan ⟨9,.str [99,97,110,110,111,116,32,98,101,32,110,101,103,97,116,105,118,101]⟩)
else
(if(IntKind.wrap .i64 (n - 0)) > 0 then
(if(0:Int)<(IntKind.wrap .i64 (n - 0))∧(Int.toNat (IntKind.wrap .i64 (n - 0))) * 32≤Bz then
 if(0:Int)≤0∧0≤((List.replicate (Int.toNat (IntKind.wrap .i64 (n - 0))) ((Bw 32 0):(Vector Int 32))).length:Int) then
 .ok ((List.replicate (Int.toNat (IntKind.wrap .i64 (n - 0))) ((Bw 32 0):(Vector Int 32))).take (Int.toNat 0)) else .bad else .bad)
else
(.ok []))
def Lp (a:(List (Vector Int 32)))(size:Int):R Int:=
 if(IntKind.wrap .i64 (size+(a.length:Int)))<0 then
(.pan ⟨9,.str [108,101,110,32,111,117,116,32,111,102,32,114,97,110,103,101]⟩)
else
(.ok (IntKind.wrap .i64 (size+(a.length:Int))))
def I9 (a1:(List (Vector Int 32)))(newslice1:(List (Vector Int 32))):R (List (Vector Int 32)):=
 if(newslice1.length+a1.length) * 32≤Bz then
 .ok (newslice1++a1) else .bad
def K4 (slices:(List (List (Vector Int 32)))):R (List (Vector Int 32)):=
 (eachS (fun _ a=>fun size=>Lp a size) 0 slices 0).bind ((fun size=>(K3 size).bind fun newslice=>
 (eachS (fun _ a1=>fun newslice1=>I9 a1 newslice1) 0 slices newslice).bind ((fun newslice1=>.ok newslice1))))
def P1 (l:List Table)(vat:Int)(slot:Int):R (Opening×Int):=
 (L7 l).bind fun r=>
 (if((((!r)||(decide (vat<0)))||(decide (vat≥(l.length:Int))))||(decide (slot<0))) then R.ok true else(idx l 0).bind fun a=>
 R.ok (decide (slot≥(a.Costs.length:Int)))).bind (fun(b:Bool)=>if b then
(.ok (({ Airline:=0,Flight:=0,Slot:=0,Cost:=0,Salt:=(Bw 32 0),Path:=[] }:Opening),360))
else
((idx l vat).bind fun a1=>
 (Lc a1).bind fun r1=>
 (Sx r1 slot).bind fun r2=>
 (Iq l).bind fun r3=>
 (Sx r3 vat).bind fun r4=>
 (idx a1.Costs slot).bind fun a2=>
 (K4 [r2.1,r4.1]).bind fun r5=>
 .ok (({ Airline:=a1.Airline,Flight:=a1.Flight,Slot:=slot,Cost:=a2,Salt:=a1.Salt,Path:=r5 }:Opening),0)))
def Dw (a:List Opening)(target:Opening)(i:Int)(j:Int):R ((Int×Int) ⊕ Int):=
 if i<j then
((idx a (IntKind.wrap .i64 (Int.fdiv (IntKind.wrap .u64 (IntKind.wrap .i64 (i+j))) 2))).bind fun a1=>
 (Mk a1 target).bind fun r=>
 if r<0 then
(.ok (.inl ((IntKind.wrap .i64 ((IntKind.wrap .i64 (Int.fdiv (IntKind.wrap .u64 (IntKind.wrap .i64 (i+j))) 2))+1)),j)))
else
(.ok (.inl (i,(IntKind.wrap .i64 (Int.fdiv (IntKind.wrap .u64 (IntKind.wrap .i64 (i+j))) 2))))))
else
(.ok (.inr (i)))
def Dv (a:List Opening)(target:Opening)(i1:Int):R (Int×Bool):=
 if(decide (i1<(a.length:Int))) then
((idx a i1).bind fun a2=>
 (Mk a2 target).bind fun r1=>
 .ok (i1,(r1==0)))
else
(.ok (i1,false))
def Ej (a:List Opening)(target:Opening):R (Int×Bool):=
 (loop (Da fun i j=>Dw a target i j) (0,(a.length:Int))).bind (fun i1=>Dv a target i1)
def Nt (s:List Opening):R (List Opening):=if s.length * 88≤Bz then .ok s else .bad
def Sg (i:Int)(l:List Opening)(l2:List Opening):R (List Opening):=Rd 88 l i l2
def Hj (r:(Int×Bool))(y2:List Opening):R (Int×Bool×(List Opening)):=
 .ok (r.1,false,y2)
def Gk (l:List Opening)(b:Opening):R (Int×Bool×(List Opening)):=
 (Ej l b).bind fun r=>
 if r.2 then
(.ok (r.1,true,l))
else
((Nt l).bind fun r1=>
 (Sg r.1 r1 [b]).bind fun y=>
 Hj r y)
def Mh (s2:(List (Vector Int 32)))(j:Nat)(a:(Vector Int 32)):R (Unit ⊕ Bool):=
 (idx s2 (j:Int)).bind fun a1=>
 if(a==a1) then
(.ok (.inl ()))
else
(.ok (.inr (false)))
def S2 (s1:(List (Vector Int 32)))(s2:(List (Vector Int 32))):R Bool:=
 if((s1.length:Int) != (s2.length:Int)) then
(.ok false)
else
((each (fun j a=>fun _=>Mh s2 j a) 0 s1 ()).bind (alt (fun _=>.ok true) (fun r=>.ok r)))
def X8 (a:Opening)(b:Opening):R Bool:=
 (if(((((a.Airline==b.Airline)&&(a.Flight==b.Flight))&&(a.Slot==b.Slot))&&(a.Cost==b.Cost))&&(a.Salt==b.Salt)) then(S2 a.Path b.Path).bind fun r=>
 R.ok r else R.ok false).bind (fun(b1:Bool)=>.ok b1)
def N2 (c:Clearing)(r:(Int×Bool×(List Opening)))(x:Bool):R (Clearing×Int):=
 if x then
(.ok (({ No:=0,Phase:=0,Slots:=0,Owners:=[],Flights:=[],Commitments:=[],Openings:=[],Outcome:=[] }:Clearing),400))
else
(.ok (({ No:=c.No,Phase:=c.Phase,Slots:=c.Slots,Owners:=c.Owners,Flights:=c.Flights,Commitments:=c.Commitments,Openings:=r.2.2,Outcome:=c.Outcome }:Clearing),0))
def S0 (c:Clearing)(o:Opening):R (Clearing×Int):=
 (Hr c).bind fun e=>
 if(e != 0) then
(.ok (({ No:=0,Phase:=0,Slots:=0,Owners:=[],Flights:=[],Commitments:=[],Openings:=[],Outcome:=[] }:Clearing),e))
else
(if(c.Phase==1) then
(.ok (({ No:=0,Phase:=0,Slots:=0,Owners:=[],Flights:=[],Commitments:=[],Openings:=[],Outcome:=[] }:Clearing),401))
else
((Hx c o).bind fun e1=>
 if(e1 != 0) then
(.ok (({ No:=0,Phase:=0,Slots:=0,Owners:=[],Flights:=[],Commitments:=[],Openings:=[],Outcome:=[] }:Clearing),e1))
else
((Gk c.Openings o).bind fun r=>
 if r.2.1 then
((idx c.Openings r.1).bind fun a=>
 (X8 a o).bind fun r1=>
 N2 c r (!r1))
else
(N2 c r false))))
def Q3 (i:Int)(o:Clearing)(o1:Table):R ((Int×Int×Clearing) ⊕ ((Int×Clearing) ⊕ (Clearing×Bool))):=
 if i≤2 then
((Nm [o1]).bind fun r1=>
 if(r1.2 != 0) then
(.ok (.inr (.inr ((o,false)))))
else
((Pd o o1.Airline r1.1).bind fun r2=>
 .ok (.inl (r2.2,(IntKind.wrap .i64 (i+1)),r2.1))))
else
((P1 [o1] 0 (IntKind.wrap .i64 (Int.tdiv (IntKind.wrap .i64 (i - 3)) 2))).bind fun r3=>
 if(r3.2 != 0) then
(.ok (.inr (.inr ((o,false)))))
else
((S0 o r3.1).bind fun r4=>
 .ok (.inl (r4.2,(IntKind.wrap .i64 (i+1)),r4.1))))
def Q4 (steps:Int)(e:Int)(i:Int)(o:Clearing):R ((Int×Int×Clearing) ⊕ ((Int×Clearing) ⊕ (Clearing×Bool))):=
 if((decide (i≤steps))&&(e==0)) then
(if((Int.tmod i 2)==0) then
(Q3 i o ({ Airline:=3,Flight:=9,Costs:=[2,6],Salt:=(Bw 32 0) }:Table))
else
(Q3 i o ({ Airline:=0,Flight:=5,Costs:=[4,1],Salt:=(Bw 32 0) }:Table)))
else
(.ok (.inr (.inl ((e,o)))))
def Tq (e1:Int)(o2:Clearing):R (Clearing×Bool):=
 .ok (o2,(e1==0))
def Vw (steps:Int):R (Clearing×Bool):=
 (T5 1 2 [0,3] [5,9]).bind fun r=>
 (loop (Tg fun e i o=>Q4 steps e i o) (r.2,1,r.1)).bind (alt (Da fun e1 o2=>Tq e1 o2) (fun r=>.ok r))
def Q8 (c:Clearing):R (Round×Int):=
 (Hr c).bind fun e=>
 if(e != 0) then
(.ok (({ Slots:=0,Owners:=[],Costs:=[] }:Round),e))
else
((Ji c).bind fun r=>
 if r.2 then
(.ok (r.1,0))
else
(.ok (({ Slots:=0,Owners:=[],Costs:=[] }:Round),401)))
def Rg (c:Clearing):R (Clearing×Int):=
 (Q8 c).bind fun r=>
 if(r.2 != 0) then
(.ok (({ No:=0,Phase:=0,Slots:=0,Owners:=[],Flights:=[],Commitments:=[],Openings:=[],Outcome:=[] }:Clearing),r.2))
else
(if(c.Phase==2) then
((K5 r.1).bind fun r1=>
 .ok (({ No:=c.No,Phase:=r1.2,Slots:=c.Slots,Owners:=c.Owners,Flights:=c.Flights,Commitments:=c.Commitments,Openings:=c.Openings,Outcome:=r1.1 }:Clearing),0))
else
(.ok (c,0)))
def C6 (n:Int)(lo:Int)(hi:Int):R Bool:=
 .ok ((decide (lo≤n))&&(decide (n≤hi)))
def Fj (m:(List (Int×Bool)))(a:Lease)(x1:Bool):R ((List (Int×Bool)) ⊕ Int):=
 if x1 then
(.ok (.inr (350)))
else
(.ok (.inl (L4 m a.Token true)))
def N7 (l:Leases)(j:Nat)(a:Lease)(m:(List (Int×Bool))):R ((List (Int×Bool)) ⊕ Int):=
 (C6 a.Slot 0 4095).bind fun r1=>
 if(!r1) then
(Fj m a true)
else
((C6 a.Airline 0 7).bind fun r2=>
 if(!r2) then
(Fj m a true)
else
((C6 a.Flight 0 4095).bind fun r3=>
 if(!r3) then
(Fj m a true)
else
((C6 a.Token 1 l.Token).bind fun r4=>
 if(!r4) then
(Fj m a true)
else
(if(decide ((j:Int) > 0)) then
((idx l.List (IntKind.wrap .i64 ((j:Int) - 1))).bind fun a1=>
 if(decide (a1.Slot≥a.Slot)) then
(Fj m a true)
else
(Fj m a (Option.getD (D0 m a.Token) false)))
else
(Fj m a (Option.getD (D0 m a.Token) false))))))
def Nz (l:Leases):R Int:=
 (C6 l.Token 0 1048576).bind fun r=>
 if r then
((each (fun j a=>fun m=>N7 l j a m) 0 l.List []).bind (alt (fun m=>.ok 0) (fun r=>.ok r)))
else
(.ok 350)
def Ub (a:Lease)(b:Int):R Bool:=
 .ok (a.Slot==b)
def Ei (s1:Int)(j:Nat)(a:Lease):R (Unit ⊕ Int):=
 (Ub a s1).bind fun r=>
 if r then
(.ok (.inr ((j:Int))))
else
(.ok (.inl ()))
def Ib (s:List Lease)(s1:Int):R Int:=
 (each (fun j a=>fun _=>Ei s1 j a) 0 s ()).bind (alt (fun _=>.ok (-1)) (fun r=>.ok r))
def Ny (l:Leases)(slot:Int):R (Lease×Bool):=
 (Ib l.List slot).bind fun i=>
 if i<0 then
(.ok (({ Slot:=0,Airline:=0,Flight:=0,Token:=0,Used:=false }:Lease),false))
else
((idx l.List i).bind fun a=>
 .ok (a,true))
def F1 (x:Int)(x1:Bool):R (Int ⊕ (Unit ⊕ Bool)):=
 if x1 then
(.ok (.inr (.inr (false))))
else
(.ok (.inl (IntKind.wrap .i64 (x+1))))
def Od (c:Clearing)(l:Leases)(x:Int):R (Int ⊕ (Unit ⊕ Bool)):=
 if x<c.Slots then
((Ny l x).bind fun r1=>
 if(!(r1.2==(decide (x<(c.Flights.length:Int))))) then
(F1 x true)
else
(if r1.2 then
((idx c.Owners x).bind fun a=>
 if(r1.1.Airline != a) then
(F1 x true)
else
((idx c.Flights x).bind fun a1=>
 if(r1.1.Flight != a1) then
(F1 x true)
else
(F1 x r1.1.Used)))
else
(F1 x false)))
else
(.ok (.inr (.inl (()))))
def Rk:R Bool:=
 .ok true
def Qm (c:Clearing)(l:Leases):R Bool:=
 (Nz l).bind fun r=>
 if(r != 0) then
(.ok false)
else
((loop (fun x=>Od c l x) 0).bind (alt (fun _=>Rk) (fun r=>.ok r)))
def Im (c:Clearing)(l:Leases)(j:Nat)(a:Int)(x1:List Command):R (List Command):=
 if(a==(j:Int)) then
(.ok x1)
else
((idx c.Owners (j:Int)).bind fun a1=>
 (idx c.Flights (j:Int)).bind fun a2=>
 (Ny l a).bind fun r1=>
 if r1.2 then
(if(x1.length+[({ Kind:=2,Slot:=a,Airline:=a1,Flight:=a2,Token:=r1.1.Token }:Command)].length) * 40≤Bz then
 .ok (x1++[({ Kind:=2,Slot:=a,Airline:=a1,Flight:=a2,Token:=r1.1.Token }:Command)]) else .bad)
else
(if(x1.length+[({ Kind:=1,Slot:=a,Airline:=a1,Flight:=a2,Token:=0 }:Command)].length) * 40≤Bz then
 .ok (x1++[({ Kind:=1,Slot:=a,Airline:=a1,Flight:=a2,Token:=0 }:Command)]) else .bad))
def H9 (c:Clearing)(l:Leases):R ((List Command)×Int):=
 (Hr c).bind fun e=>
 if(e != 0) then
(.ok ([],e))
else
(if((c.Phase != 3)&&(c.Phase != 4)) then
(.ok ([],401))
else
((Qm c l).bind fun r=>
 if r then
((eachS (fun j a=>fun x1=>Im c l j a x1) 0 c.Outcome []).bind ((fun x1=>.ok (x1,0))))
else
(.ok ([],400))))
def Q1 (b:List Int)(j:Nat)(a1:Int):R (Unit ⊕ Bool):=
 (idx b (j:Int)).bind fun a2=>
 if(a1 != a2) then
(.ok (.inr (false)))
else
(.ok (.inl ()))
def Ob (a:List Int)(b:List Int):R Bool:=
 if((a.length:Int) != (b.length:Int)) then
(.ok false)
else
((each (fun j a1=>fun _=>Q1 b j a1) 0 a ()).bind (alt (fun _=>.ok true) (fun r=>.ok r)))
def Pj (b:Round)(j:Nat)(a1:List Int):R (Unit ⊕ Bool):=
 (idx b.Costs (j:Int)).bind fun a2=>
 (Ob a1 a2).bind fun r1=>
 if r1 then
(.ok (.inl ()))
else
(.ok (.inr (false)))
def Ta (a:Round)(b:Round):R Bool:=
 (if(a.Slots != b.Slots) then R.ok true else(Ob a.Owners b.Owners).bind fun r=>
 R.ok (!r)).bind (fun(b1:Bool)=>if(b1||((a.Costs.length:Int) != (b.Costs.length:Int))) then
(.ok false)
else
((each (fun j a1=>fun _=>Pj b j a1) 0 a.Costs ()).bind (alt (fun _=>.ok true) (fun r=>.ok r))))
def M6 (b:List Command)(j:Nat)(a1:Command):R (Unit ⊕ Bool):=
 (idx b (j:Int)).bind fun a2=>
 if((a1.Kind==a2.Kind)&&((a1.Slot==a2.Slot)&&((a1.Airline==a2.Airline)&&((a1.Flight==a2.Flight)&&(a1.Token==a2.Token))))) then
(.ok (.inl ()))
else
(.ok (.inr (false)))
def Pi (a:List Command)(b:List Command):R Bool:=
 if((a.length:Int) != (b.length:Int)) then
(.ok false)
else
((each (fun j a1=>fun _=>M6 b j a1) 0 a ()).bind (alt (fun _=>.ok true) (fun r=>.ok r)))
def Rz:R Bool:=
 (T5 1 2 [0,1,2] [0,1,2]).bind fun r=>
 (Vw 0).bind fun r1=>
 (Pd r1.1 1 (#v[1,0,0,0,0,0,0,0,0,0,0,0,0,0,0,0,0,0,0,0,0,0,0,0,0,0,0,0,0,0,0,0]:(Vector Int 32))).bind fun r2=>
 (Rg r1.1).bind fun r3=>
 (H9 r1.1 ({ Token:=0,List:=[] }:Leases)).bind fun r4=>
 (S0 r1.1 ({ Airline:=0,Flight:=0,Slot:=0,Cost:=0,Salt:=(Bw 32 0),Path:=[] }:Opening)).bind fun r5=>
 (Vw 6).bind fun r6=>
 (Q8 r6.1).bind fun r7=>
 (Rg r6.1).bind fun r8=>
 (H9 r8.1 ({ Token:=2,List:=[({ Slot:=0,Airline:=0,Flight:=5,Token:=1,Used:=false }:Lease),({ Slot:=1,Airline:=3,Flight:=9,Token:=2,Used:=false }:Lease)] }:Leases)).bind fun r9=>
 (if(((((((((((((r.2 != 400)||(!r1.2))||(!r6.2))||(r2.2 != 400))||(r3.2 != 401))||(r4.2 != 401))||(r5.2 != 401))||(r7.2 != 0))||(r8.2 != 0))||(r9.2 != 0))||(r1.1.Phase != 1))||(r6.1.Phase != 2))||(r8.1.Phase != 3)) then R.ok true else(Hr r8.1).bind fun r10=>
 R.ok (r10 != 0)).bind (fun(b:Bool)=>if b then
(.ok false)
else
((Ta r7.1 ({ Slots:=2,Owners:=[0,3],Costs:=[[4,1],[2,6]] }:Round)).bind fun r11=>
 (if r11 then(Ob r8.1.Outcome [1,0]).bind fun r12=>
 R.ok r12 else R.ok false).bind (fun(b1:Bool)=>(if b1 then(Pi r9.1 [({ Kind:=2,Slot:=1,Airline:=0,Flight:=5,Token:=2 }:Command),({ Kind:=2,Slot:=0,Airline:=3,Flight:=9,Token:=1 }:Command)]).bind fun r13=>
 R.ok r13 else R.ok false).bind (fun(b2:Bool)=>.ok b2))))
def Rf (a:Opening):R (Unit ⊕ Bool):=
 if(a.Path.length:Int) > 12 then
(.ok (.inr (false)))
else
(.ok (.inl ()))
def Yg (c:Clearing):R Bool:=
 (each (fun _ a=>fun _=>Rf a) 0 c.Openings ()).bind (alt (fun _=>.ok ((((((decide ((c.Flights.length:Int)≤4))&&(decide ((c.Owners.length:Int)≤6)))&&(decide (c.Slots≤5)))&&(decide ((c.Commitments.length:Int)≤8)))&&(decide ((c.Openings.length:Int)≤30)))&&(decide ((c.Outcome.length:Int)≤10)))) (fun r=>.ok r))
def Vu (l:Leases):R Bool:=
 .ok (decide ((l.List.length:Int)≤40))
def W9:R Unit:=
 .ok ()
def Fm (ok:Bool)(e:Int):R Unit:=
 if ok then
(.ok ())
else
(.pan ⟨176,.one .i64 e⟩)
def G6 (s:List Lease):R (List Lease):=if s.length * 40≤Bz then .ok s else .bad
def Pf (a:Lease)(slot:Int):R Int:=
 (Jh a.Slot slot).bind fun r=>
 .ok r
def D4 (a:List Lease)(target:Int)(i:Int)(j:Int):R ((Int×Int) ⊕ Int):=
 if i<j then
((idx a (IntKind.wrap .i64 (Int.fdiv (IntKind.wrap .u64 (IntKind.wrap .i64 (i+j))) 2))).bind fun a1=>
 (Pf a1 target).bind fun r=>
 if r<0 then
(.ok (.inl ((IntKind.wrap .i64 ((IntKind.wrap .i64 (Int.fdiv (IntKind.wrap .u64 (IntKind.wrap .i64 (i+j))) 2))+1)),j)))
else
(.ok (.inl (i,(IntKind.wrap .i64 (Int.fdiv (IntKind.wrap .u64 (IntKind.wrap .i64 (i+j))) 2))))))
else
(.ok (.inr (i)))
def Fc (a:List Lease)(target:Int)(i1:Int):R (Int×Bool):=
 (if(decide (i1<(a.length:Int))) then(idx a i1).bind fun a2=>
 (Pf a2 target).bind fun r1=>
 R.ok (r1==0) else R.ok false).bind (fun(b:Bool)=>.ok (i1,b))
def Id (a:List Lease)(target:Int):R (Int×Bool):=
 (loop (Da fun i j=>D4 a target i j) (0,(a.length:Int))).bind (fun i1=>Fc a target i1)
def T8 (l:List Lease)(slot:Int):R (Int×Bool):=
 (Id l slot).bind fun r=>
 .ok (r.1,r.2)
def Ix (s_LeasesToken:Int):R Unit:=
 (Fm (decide (s_LeasesToken<1048576)) 2).bind fun _=>
 .ok ()
def R7 (i:Int)(l:List Lease)(l2:List Lease):R (List Lease):=Rd 40 l i l2
def Lv (c:Command)(s0_LeasesToken:Int)(l:List Lease):R T140:=
 (T8 l c.Slot).bind fun r=>
 (Fm (!r.2) 350).bind fun _=>
 (Ix s0_LeasesToken).bind fun _=>
 (R7 r.1 l [({ Slot:=c.Slot,Airline:=c.Airline,Flight:=c.Flight,Token:=(IntKind.wrap .i64 (s0_LeasesToken+1)),Used:=false }:Lease)]).bind fun r3=>
 .ok ({ Leases:=({ Token:=(IntKind.wrap .i64 (s0_LeasesToken+1)),List:=r3 }:Leases) }:T140)
def It (c:Command)(s0_LeasesToken:Int)(l:List Lease):R (Nat×Lease):=
 (T8 l c.Slot).bind fun r=>
 (Fm r.2 350).bind fun _=>
 (idx l r.1).bind fun a=>
 (Fm (a.Token==c.Token) 351).bind fun _=>
 (Fm (!a.Used) 350).bind fun _=>
 .ok ((Int.toNat r.1),a)
def J6 (c:Command)(s0_LeasesToken:Int)(l:List Lease):R (List Lease):=
 (It c s0_LeasesToken l).bind fun r=>
 (Ix s0_LeasesToken).bind fun _=>
 .ok (l.set r.1 ({ Slot:=c.Slot,Airline:=c.Airline,Flight:=c.Flight,Token:=(IntKind.wrap .i64 (s0_LeasesToken+1)),Used:=false }:Lease))
def Nn (c:Command)(s0_LeasesToken:Int)(l:List Lease):R (List Lease):=
 (It c s0_LeasesToken l).bind fun r=>
 (Fm (r.2.Flight==c.Flight) 350).bind fun _=>
 .ok (l.set r.1 { r.2 with Used:=true })
def N8 (p:T175):R Unit:=
 .ok ()
def I0 (n:Int):R Int:=
 (N8 ({ fE:=n }:T175)).bind fun _=>
 .ok (({ fE:=n }:T175).fE)
def Acg (l1:List Lease):R (Leases×Int):=
 .bad
def Yb (l:Leases)(c:Command)(l2:List Lease):R (Leases×Int):=
 (Lv c l.Token l2).bind fun r10=>
 .ok (r10.Leases,0)
def Ux (l:Leases)(c:Command)(l3:List Lease):R (Leases×Int):=
 (J6 c l.Token l3).bind fun r17=>
 .ok (({ Token:=(IntKind.wrap .i64 (l.Token+1)),List:=r17 }:Leases),0)
def X5 (l:Leases)(c:Command)(l4:List Lease):R (Leases×Int):=
 (Nn c l.Token l4).bind fun r24=>
 .ok (({ Token:=l.Token,List:=r24 }:Leases),0)
def Uc (l:Leases)(c:Command):R (Leases×Int):=
 (Nz l).bind fun r=>
 if(r != 0) then
(.ok (({ Token:=0,List:=[] }:Leases),r))
else
(if(c.Kind==1) then
((C6 c.Slot 0 4095).bind fun r4=>
 (if r4 then(C6 c.Flight 0 4095).bind fun r5=>
 R.ok r5 else R.ok false).bind (fun(b:Bool)=>(if b then(C6 c.Airline 0 7).bind fun r6=>
 R.ok r6 else R.ok false).bind (fun(b1:Bool)=>(Fm b1 350).bind fun _=>
 (G6 l.List).bind fun r8=>
 Yb l c r8)))
else
(if(c.Kind==2) then
((C6 c.Slot 0 4095).bind fun r11=>
 (if r11 then(C6 c.Flight 0 4095).bind fun r12=>
 R.ok r12 else R.ok false).bind (fun(b2:Bool)=>(if b2 then(C6 c.Airline 0 7).bind fun r13=>
 R.ok r13 else R.ok false).bind (fun(b3:Bool)=>(Fm b3 350).bind fun _=>
 (G6 l.List).bind fun r15=>
 Ux l c r15)))
else
(if(c.Kind==3) then
((C6 c.Slot 0 4095).bind fun r18=>
 (if r18 then(C6 c.Flight 0 4095).bind fun r19=>
 R.ok r19 else R.ok false).bind (fun(b4:Bool)=>(if b4 then(C6 c.Airline 0 7).bind fun r20=>
 R.ok r20 else R.ok false).bind (fun(b5:Bool)=>(Fm b5 350).bind fun _=>
 (G6 l.List).bind fun r22=>
 X5 l c r22)))
else
((Fm false 350).bind fun _=>
 (G6 l.List).bind fun r2=>
 Acg r2))))
def Nf (l:Leases)(c:Command):R (Leases×Int):=
 (Uc l c).catch' (Pw 176 .i64 (fun n=>(I0 n).bind fun p=>.ok (({ Token:=0,List:=[] }:Leases),p)) (fun _=>.bad))
def Ie (a1:Command)(o:Leases):R (Leases ⊕ Bool):=
 (Nf o a1).bind fun r4=>
 if(r4.2 != 0) then
(.ok (.inr (false)))
else
(.ok (.inl r4.1))
def Fr (b:Leases)(o:Leases)(j1:Nat)(a2:Int)(r5:(Lease×Bool))(x2:Bool):R (Unit ⊕ Bool):=
 if x2 then
(.ok (.inr (false)))
else
((Ny b a2).bind fun r6=>
 if((a2==(j1:Int))||(!r6.2)) then
(.ok (.inl ()))
else
((Nf o ({ Kind:=3,Slot:=a2,Airline:=r6.1.Airline,Flight:=r6.1.Flight,Token:=r6.1.Token }:Command)).bind fun r7=>
 (Nf o ({ Kind:=2,Slot:=a2,Airline:=r6.1.Airline,Flight:=r6.1.Flight,Token:=r6.1.Token }:Command)).bind fun r8=>
 if(((r7.2 != 351)||(r8.2 != 351))||(decide (r5.1.Token≤b.Token))) then
(.ok (.inr (false)))
else
(.ok (.inl ()))))
def Gr (a:Clearing)(b:Leases)(o:Leases)(j1:Nat)(a2:Int):R (Unit ⊕ Bool):=
 (Ny o a2).bind fun r5=>
 if(!r5.2) then
(Fr b o j1 a2 r5 true)
else
((idx a.Owners (j1:Int)).bind fun a3=>
 if(r5.1.Airline != a3) then
(Fr b o j1 a2 r5 true)
else
((idx a.Flights (j1:Int)).bind fun a4=>
 if(r5.1.Flight != a4) then
(Fr b o j1 a2 r5 true)
else
(Fr b o j1 a2 r5 r5.1.Used)))
def Ph (a:Clearing)(b:Leases):R Bool:=
 (Rz).bind fun r=>
 if r then
((Yg a).bind fun r1=>
 (if(!r1) then R.ok true else(Vu b).bind fun r2=>
 R.ok (!r2)).bind (fun(b1:Bool)=>if b1 then
(.ok true)
else
((H9 a b).bind fun r3=>
 if((r3.2 != 0)||(decide ((IntKind.wrap .i64 (b.Token+(r3.1.length:Int))) > 1048576))) then
(.ok (((r3.1.length:Int)==0)||(r3.2==0)))
else
((each (fun _ a1=>fun o=>Ie a1 o) 0 r3.1 b).bind (alt (fun o=>(each (fun j1 a2=>fun _=>Gr a b o j1 a2) 0 a.Outcome ()).bind (alt (fun _=>.ok true) (fun r=>.ok r))) (fun r=>.ok r))))))
else
(.ok false)
end
end Go.Am
namespace Go.Am
open Go Go.Proofs Go.Proofs.Tryz
set_option maxRecDepth 100000
set_option maxHeartbeats 4000000
set_option linter.unusedSimpArgs false
set_option linter.unusedVariables false
theorem Ahl (l:List Int)(h0:Aa)(o0:Nat)(v:AV)(g:Nat)(hv:Bh v o0 g l.length)(hI0:Ids h0 [o0] 1):L0 l≠.bad→Bd Tryz.prog 88 [v] (hp h0 [o0] [A9 v g 1 (l.map rJ)]) (D2 (fun a_ v' h'=>v'=(.tup [])∧h'=hp h0 [o0] [A9 v g 1 ((Pq l).map rJ)]) h0 (L0 l)):=
 Arn hI0 (.mk Tryz.func88 rfl (by decide)) hv Go.Proofs.Tryz.slices_Sort_int Go.Proofs.Tryz.slices_Sort_int_none
theorem Pn (owners:List Int)(h0:Aa)(o0:Nat)(hI0:Ids h0 [o0] 1):Fk owners≠.bad→Bd Tryz.prog 50 [(.K owners)] (hp h0 [o0] [none]) (D2 (fun a_ v h' => ∃ (g3:Nat),v=(.tup [(.map o0 g3),(.K a_.1)])∧h'=hp h0 [o0] [some (.mp g3 (mE (fun x:Int=>(AV.int .i64 x)) (fun x:Int=>(AV.int .i64 x)) a_.2))]) h0 (Fk owners)):=by
 refine Dm (n:=36) 1 func50 J (by decide) J J hI0 J fun ids he hI=>?_
 clear hI0
 obtain rfl:ix ids 0=o0:=he 0 rfl
 clear he
 refine Du (Af (Fk.eq_1 _) ?_)
 refine Ao ?_
 refine Y<|Z 2 [] [(3,.emp)]<|O<|Y<|Zr (j:=0) hI J J J J fun g=>Ac (.map (ix ids 0) g)<|O<|Ao ?_
 refine Ab<|Y<|Al (.K owners)<|Br owners<|Al (.I 0)<|O<|An<|Ca [2,3,7,8,9] ?_
 refine Dj (P:=Tryz.prog) owners (fun _ a=>Da fun m airlines=>G4 a m airlines) (((Da fun m airlines=>(L0 airlines).bind fun _=>.ok ((Pq airlines),m))):((List (Int×Int))×(List Int))→R ((List Int)×(List (Int×Int)))) (fun j=>Da fun m airlines=>fun fr h => ∃ (v1:AV),∃ (g1:Nat),Bh v1 (ix ids 1) g1 airlines.length∧fr=Ad [(2,.map (ix ids 0) g),(3,v1),(7,.K owners),(8,.I (owners.length:Int)),(9,.I j)]∧h=hp h0 ids [some (.mp g (mE (fun x:Int=>(AV.I x)) (fun x:Int=>(AV.I x)) m)),A9 v1 g1 1 (List.map rJ airlines)]) ([],[]) ?_ ?_ ?_
 ·exact⟨.emp,0,.nil,J,J⟩
 ·rintro j a ha W hW ⟨m,airlines⟩ fr h ⟨v1,g1,vH,rfl,rfl⟩
  refine Af (m':=G4 a m airlines) J (Af (G4.eq_1 _ _ _) ?_)
  refine Y<|Av (.B (decide ((j:Int)<(owners.length:Int))))<|O<|Ab<|C1 (t:=7) (L:=owners) J fun hlim=>By J (Int.ofNat_lt.2 (Ay ha))<|Ah<|Ab<|An<|Y<|Aw (.cp [.I a] 0) J (As (Cu A8 Bk J ha))<|Z 2 [] [(5,.I a)]<|O<|Ab<|Y<|Z 3 [] [(15,.B (decide (a<0)))]<|B8 3 15 18 [2,3,5,7,8,9] (.B ((decide (a<0))||(decide (a≥8)))) J ?_ (fun hb1 hJ=>?_) (fun hb1 hJ=>?_)
  ·refine O<|A6 J (fun hc=>?_) (fun hc=>?_)
   ·refine Bg J<|Ai<|Z 2 [] [(9,.I (wi ((j:Int)+1)))]<|O<|A2 (Hg (hW (m,airlines) _ _ ⟨v1,g1,vH,J,J⟩)) (.r4 (.o (ic ha hlim)))
   refine Ah<|Ab<|Y<|Z 2 [] [(20,.I a),(19,.map (ix ids 0) g)]<|Aw (.I (Option.getD (D0 m a) 0)) J (Pb (Qh (eK:=(fun x:Int=>(AV.I x))) (eV:=(fun x:Int=>(AV.I x))) (zv:=0) (M7 (hI.at J J)) Aeh Bk Bk Gx J).1)<|Av (.B ((Option.getD (D0 m a) 0)==0))<|O<|A6 J (fun hc1=>?_) (fun hc1=>?_)
   ·refine Ai<|Z 2 [] [(24,.I a),(23,v1)]<|Fi (e:=rJ) (L:=[a]) (st:=1) (rows:=[[.I a]]) J A8 Bk J J J J J (.cons (RowSim.refl _) .nil) (fun x=>Bv x) J J<|Cb fun hl=>Ex (e:=rJ) (L:=airlines) (L2:=[a]) (v:=v1) (g:=g1) (st:=1) (j:=1) hI J J J J vH J (E2 J) A8 A8 J Bk J J J hl fun v2 g2 vH1=>Ac v2<|O<|Ao ?_
    refine Ai<|Z 2 [] [(28,.I a),(27,.map (ix ids 0) g)]<|Aw (.I (Option.getD (D0 m a) 0)) J (Pb (Qh (eK:=(fun x:Int=>(AV.I x))) (eV:=(fun x:Int=>(AV.I x))) (zv:=0) (M7 (hI.at J J)) Aeh Bk Bk Gx J).1)<|Av (.I (wi ((Option.getD (D0 m a) 0)+1)))<|T1 (j:=0) (eK:=(fun x:Int=>(AV.I x))) (eV:=(fun x:Int=>(AV.I x))) (M:=m) (ky:=a) (w:=(wi ((Option.getD (D0 m a) 0)+1))) hI J J J J J J Aeh Bk Gx<|O<|Ao ?_
    refine Ax<|Ai<|Z 2 [] [(9,.I (wi ((j:Int)+1)))]<|O<|A2 (Hg (hW ((L4 m a (wi ((Option.getD (D0 m a) 0)+1))),airlines++[a]) _ _ ⟨v2,g2,vH1,J,J⟩)) (.r4 (.o (ic ha hlim)))
   refine Ah<|Ai<|Z 2 [] [(28,.I a),(27,.map (ix ids 0) g)]<|Aw (.I (Option.getD (D0 m a) 0)) J (Pb (Qh (eK:=(fun x:Int=>(AV.I x))) (eV:=(fun x:Int=>(AV.I x))) (zv:=0) (M7 (hI.at J J)) Aeh Bk Bk Gx J).1)<|Av (.I (wi ((Option.getD (D0 m a) 0)+1)))<|T1 (j:=0) (eK:=(fun x:Int=>(AV.I x))) (eV:=(fun x:Int=>(AV.I x))) (M:=m) (ky:=a) (w:=(wi ((Option.getD (D0 m a) 0)+1))) hI J J J J J J Aeh Bk Gx<|O<|Ao ?_
   refine Ax<|Ai<|Z 2 [] [(9,.I (wi ((j:Int)+1)))]<|O<|A2 (Hg (hW ((L4 m a (wi ((Option.getD (D0 m a) 0)+1))),airlines) _ _ ⟨v1,g1,vH,J,J⟩)) (.r4 (.o (ic ha hlim)))
  ·refine Z 3 [] [(18,.B true),(17,.und),(16,.und)]<|A4 hJ (.r4 (.r2 (.cons (Ev hb1) .nil)))
  refine Z 3 [] [(18,.B (decide (a≥8))),(17,.B (decide (a≥8))),(16,.I a)]<|A4 hJ (.r4 (.r2 (.cons (Eu hb1) .nil)))
 rintro⟨m,airlines⟩ fr h ⟨v1,g1,vH,rfl,rfl⟩
 refine Af (Asi _ _ _)<|Y<|Av (.B (decide ((owners.length:Int)<(owners.length:Int))))<|O<|Ab<|B0 J (Int.lt_irrefl _)<|Bg J<|Y<|Al v1<|Do [1] hI J J (Ahl airlines _ (ix ids 1) v1 g1 vH (by exact hI.sub' J J)) J J J J J J (fun v _=>Cy (K:=1) (N:=1) func50 hI) ?_
 rintro _ _ _ _ ⟨rfl,rfl⟩
 refine Hb [1] hI J J J ?_
 refine Ed<|O<|Ao ?_
 refine Y<|Z 4 [] [(3,v1),(2,.map (ix ids 0) g)]<|O<|Gs (K:=1) (N:=1) [some (.mp g (mE (fun x:Int=>(AV.I x)) (fun x:Int=>(AV.I x)) m))] func50 hI J J J (.keep (.drop .nil)) (.tupL (.s (.cons (G3 (Bh.sort vH) (hI.at J J) (hI.at J J) (fun x=>Bv x)) .nil))) ⟨g,J,J⟩
theorem Aiw (c):CP Tryz.prog 38 [.A (Aq c)] (Ng c) AV.bool:=by
 refine ci 94 2 func38 (Ng.eq_1 _) fun h0 ids hI hF=>Y<|B3 0 (.A (Aq c)) fun g=>Ac (.B false)<|O<|Ao ?_
 refine Ab<|Y<|Z 4 [0] [(11,.B (decide (c.No<1)))]<|B8 4 11 15 [1] (.B ((decide (c.No<1))||(decide (c.No > 1048576)))) J ?_ (fun hb1 hJ=>?_) (fun hb1 hJ=>?_)
 ·refine Al (.B ((decide (c.No<1))||(decide (c.No > 1048576))))<|B8 4 16 20 [1] (.B (((decide (c.No<1))||(decide (c.No > 1048576)))||(decide (c.Slots<1)))) J ?_ (fun hb3 hJ1=>?_) (fun hb3 hJ1=>?_)
  ·refine Al (.B (((decide (c.No<1))||(decide (c.No > 1048576)))||(decide (c.Slots<1))))<|B8 4 21 25 [1] (.B ((((decide (c.No<1))||(decide (c.No > 1048576)))||(decide (c.Slots<1)))||(decide (c.Slots > 8)))) J ?_ (fun hb5 hJ2=>?_) (fun hb5 hJ2=>?_)
   ·refine Al (.B ((((decide (c.No<1))||(decide (c.No > 1048576)))||(decide (c.Slots<1)))||(decide (c.Slots > 8))))<|B8 5 26 31 [1] (.B (((((decide (c.No<1))||(decide (c.No > 1048576)))||(decide (c.Slots<1)))||(decide (c.Slots > 8)))||(decide ((c.Flights.length:Int)<1)))) J ?_ (fun hb7 hJ3=>?_) (fun hb7 hJ3=>?_)
    ·refine Al (.B (((((decide (c.No<1))||(decide (c.No > 1048576)))||(decide (c.Slots<1)))||(decide (c.Slots > 8)))||(decide ((c.Flights.length:Int)<1))))<|B8 7 32 39 [1] (.B ((((((decide (c.No<1))||(decide (c.No > 1048576)))||(decide (c.Slots<1)))||(decide (c.Slots > 8)))||(decide ((c.Flights.length:Int)<1)))||(decide ((c.Flights.length:Int) > c.Slots)))) J ?_ (fun hb9 hJ4=>?_) (fun hb9 hJ4=>?_)
     ·refine Al (.B ((((((decide (c.No<1))||(decide (c.No > 1048576)))||(decide (c.Slots<1)))||(decide (c.Slots > 8)))||(decide ((c.Flights.length:Int)<1)))||(decide ((c.Flights.length:Int) > c.Slots))))<|B8 8 40 48 [1] (.B (((((((decide (c.No<1))||(decide (c.No > 1048576)))||(decide (c.Slots<1)))||(decide (c.Slots > 8)))||(decide ((c.Flights.length:Int)<1)))||(decide ((c.Flights.length:Int) > c.Slots)))||((c.Owners.length:Int) != (c.Flights.length:Int)))) J ?_ (fun hb11 hJ5=>?_) (fun hb11 hJ5=>?_)
      ·refine O<|A6 J (fun hc=>?_) (fun hc=>?_)
       ·refine Y<|Ac (.B false)<|O<|rt
       refine Ah<|Y<|Ac (.I (-1))<|O<|Ab<|Y<|Z 2 [0] [(50,.K c.Flights)]<|Br c.Flights<|Al (.I 0)<|O<|An<|Ca [1,3,50,51,52] ?_
       refine Ep (P:=Tryz.prog) c.Flights (fun j a=>fun last=>J0 c j a last) ((alt (fun last=>(Fk c.Owners).bind fun r=>.ok ((c.Commitments.length:Int)==(r.1.length:Int))) (fun r=>.ok r)):(Int ⊕ Bool)→R Bool) (fun j=>fun last=>fun fr h=>fr=Ad [(1,.q ids 0 g),(3,.I last),(50,.K c.Flights),(51,.I (c.Flights.length:Int)),(52,.I j)]∧h=hp h0 ids [Aj g 8 [Aq c],none]) (-1) ?_ ?_ ?_
       ·exact⟨J,J⟩
       ·rintro j a ha W hW last fr h ⟨rfl,rfl⟩
        refine Af (m':=J0 c j a last) J (Af (J0.eq_1 _ _ _ _) ?_)
        refine Y<|Av (.B (decide ((j:Int)<(c.Flights.length:Int))))<|O<|Ab<|C1 (t:=50) (L:=c.Flights) J fun hlim=>By J (Int.ofNat_lt.2 (Ay ha))<|Ah<|Ab<|An<|Y<|Al (.I j)<|Aw (.cp [.I a] 0) J (As (Cu A8 Bk J ha))<|Z 3 [] [(5,.I a),(4,.I j)]<|O<|Ab<|Y<|Z 4 [] [(60,.B (decide (a≤last)))]<|B8 3 60 63 [1,4,5,50,51,52] (.B ((decide (a≤last))||(decide (a > 4095)))) J ?_ (fun hb13 hJ6=>?_) (fun hb13 hJ6=>?_)
        ·refine Al (.B ((decide (a≤last))||(decide (a > 4095))))<|I3 7 64 71 [1,4,5,50,51,52] .bool J ?_ (fun hb15 hJ7=>?_) (fun hb15 hJ7=>?_)
         ·intro b
          refine Al (.B b)<|I3 7 72 79 [1,5,50,51,52] .bool J ?_ (fun hb17 hJ8=>?_) (fun hb17 hJ8=>?_)
          ·intro b1
           refine O<|A6 J (fun hc1=>?_) (fun hc1=>?_)
           ·refine Y<|Ac (.B false)<|O<|E4<|Ez<|rt
           refine Ah<|Ai<|Z 2 [] [(3,.I a)]<|O<|Ax<|Ai<|Z 2 [] [(52,.I (wi ((j:Int)+1)))]<|O<|A2 (E5 (hW a _ _ ⟨J,J⟩)) (.r4 (.o (ic ha hlim)))
          ·refine Z 7 [] [(79,.B true),(78,.und),(77,.und),(76,.und),(75,.und),(74,.und),(73,.und)]<|C0 (hJ8 true)
          refine Z 3 [0] [(75,.I j),(74,.K c.Owners),(73,.ptr (ix ids 0) g 0 3)]<|Jn fun a2 hz1 hx2=>Co (tj:=72) (.cp [.I a2] 0) J J J (As (Cl A8 Bk J hz1 hx2))<|Z 3 [] [(79,.B (decide (a2≥8))),(78,.B (decide (a2≥8))),(77,.I a2)]<|C0 (hJ8 (decide (a2≥8)))
         ·refine Z 7 [] [(71,.B true),(70,.und),(69,.und),(68,.und),(67,.und),(66,.und),(65,.und)]<|C0 (hJ7 true)
         refine Z 3 [0] [(67,.I j),(66,.K c.Owners),(65,.ptr (ix ids 0) g 0 3)]<|Jn fun a1 hz hx1=>Co (tj:=64) (.cp [.I a1] 0) J J J (As (Cl A8 Bk J hz hx1))<|Z 3 [] [(71,.B (decide (a1<0))),(70,.B (decide (a1<0))),(69,.I a1)]<|C0 (hJ7 (decide (a1<0)))
        ·refine Z 3 [] [(63,.B true),(62,.und),(61,.und)]<|A4 hJ6 (.r4 (.r2 (.cons (Ev hb13) .nil)))
        refine Z 3 [] [(63,.B (decide (a > 4095))),(62,.B (decide (a > 4095))),(61,.I a)]<|A4 hJ6 (.r4 (.r2 (.cons (Eu hb13) .nil)))
       rintro last fr h ⟨rfl,rfl⟩
       refine Af (Fs _ _ _)<|Y<|Av (.B (decide ((c.Flights.length:Int)<(c.Flights.length:Int))))<|O<|Ab<|B0 J (Int.lt_irrefl _)<|Bg J<|Y<|Z 2 [0] [(84,.K c.Owners)]<|Do [1] hI J J (Pn c.Owners _ (ix ids 1) (by exact hI.sub' J J)) J J J J J J (fun v _=>D6 func38 hI) ?_
       rintro r _ _ _ ⟨g1,rfl,rfl⟩
       refine Hb [1] hI J J J ?_
       refine Ed<|Z 5 [] [(7,.K r.1)]<|O<|Ao ?_
       refine Y<|Z 2 [0] [(89,.M c.Commitments)]<|Br c.Commitments<|Al (.K r.1)<|Br r.1<|Z 2 [] [(2,.B ((c.Commitments.length:Int)==(r.1.length:Int)))]<|O<|rt
      ·refine Z 8 [] [(48,.B true)]<|A4 hJ5 (.r (.cons (Ev hb11) .nil))
      refine Z 2 [0] [(42,.K c.Owners)]<|Co (tj:=40) (.I (c.Owners.length:Int)) J J J (Cf (Dr A8))<|Z 2 [0] [(45,.K c.Flights)]<|Co (tj:=40) (.I (c.Flights.length:Int)) J J J (Cf (Dr A8))<|Z 2 [] [(48,.B ((c.Owners.length:Int) != (c.Flights.length:Int)))]<|A4 hJ5 (.r (.cons (Eu hb11) .nil))
     ·refine Z 7 [] [(39,.B true)]<|A4 hJ4 (.r (.cons (Ev hb9) .nil))
     refine Z 2 [0] [(34,.K c.Flights)]<|Co (tj:=32) (.I (c.Flights.length:Int)) J J J (Cf (Dr A8))<|Z 4 [0] [(39,.B (decide ((c.Flights.length:Int) > c.Slots)))]<|A4 hJ4 (.r (.cons (Eu hb9) .nil))
    ·refine Z 5 [] [(31,.B true)]<|A4 hJ3 (.r (.cons (Ev hb7) .nil))
    refine Z 2 [0] [(28,.K c.Flights)]<|Co (tj:=26) (.I (c.Flights.length:Int)) J J J (Cf (Dr A8))<|Z 2 [] [(31,.B (decide ((c.Flights.length:Int)<1)))]<|A4 hJ3 (.r (.cons (Eu hb7) .nil))
   ·refine Z 4 [] [(25,.B true)]<|A4 hJ2 (.r (.cons (Ev hb5) .nil))
   refine Z 4 [0] [(25,.B (decide (c.Slots > 8)))]<|A4 hJ2 (.r (.cons (Eu hb5) .nil))
  ·refine Z 4 [] [(20,.B true)]<|A4 hJ1 (.r (.cons (Ev hb3) .nil))
  refine Z 4 [0] [(20,.B (decide (c.Slots<1)))]<|A4 hJ1 (.r (.cons (Eu hb3) .nil))
 ·refine Z 4 [] [(15,.B true)]<|A4 hJ (.r (.cons (Ev hb1) .nil))
 refine Z 4 [0] [(15,.B (decide (c.No > 1048576)))]<|A4 hJ (.r (.cons (Eu hb1) .nil))
theorem Acb (s v):CP Tryz.prog 117 [.M s,.A (rU v)] (Oz s v) (.int .i64):=by
 refine ci 19 1 func117 (Oz.eq_1 _ _) fun h0 ids hI hF=>Y<|B3 0 (.A (rU v)) fun g=>Ac (.I 0)<|O<|Ao ?_
 refine Ab<|Y<|Al (.M s)<|Br s<|Al (.I 0)<|O<|An<|Ca [0,3,7,8] ?_
 refine Ep (P:=Tryz.prog) s (fun j a=>fun _=>Mf v j a) ((alt (fun _=>.ok (-1)) (fun r=>.ok r)):(Unit ⊕ Int)→R Int) (fun j=>fun _=>fun fr h=>fr=Ad [(0,.M s),(3,.q ids 0 g),(7,.I (s.length:Int)),(8,.I j)]∧h=hp h0 ids [Aj g 32 [rU v]]) () ?_ ?_ ?_
 ·exact⟨J,J⟩
 ·rintro j a ha W hW _ fr h ⟨rfl,rfl⟩
  refine Af (m':=Mf v j a) J (Af (Mf.eq_1 _ _ _) ?_)
  refine Y<|Av (.B (decide ((j:Int)<(s.length:Int))))<|O<|Ab<|C1 (t:=0) (L:=s) J fun hlim=>By J (Int.ofNat_lt.2 (Ay ha))<|Ah<|Ab<|An<|Y<|Z 2 [] [(5,.I j)]<|O<|Ab<|Bt [0,0,0,6,14,31] [pR 0,pR 1,pR 2,pR 3,pR 4,pR 5] Dc<|Ap [0] [(11,.A (rU v)),(12,.M s),(13,.I j)]<|A0 (.cp (rU a) 0) J J (As (Cu C3 Bp J ha))<|Ap [] [(15,.A (rU a))]<|A0 (.B (v==a)) J J (Bl (Aa1 J J) J (Z8 Bp G2))<|A7 ?_
  refine A6 J (fun hc=>?_) (fun hc=>?_)
  ·refine Y<|Z 2 [] [(4,.I j)]<|O<|E4<|Ez<|rt
  refine Ah<|Ax<|Ai<|Z 2 [] [(8,.I (wi ((j:Int)+1)))]<|O<|A2 (E5 (hW () _ _ ⟨J,J⟩)) (.r2 (.r (.o (ic ha hlim))))
 rintro _ fr h ⟨rfl,rfl⟩
 refine Af (Fs _ _ _)<|Y<|Av (.B (decide ((s.length:Int)<(s.length:Int))))<|O<|Ab<|B0 J (Int.lt_irrefl _)<|Bg J<|Y<|Ac (.I (-1))<|O<|rt
theorem Zz (s v):CP Tryz.prog 89 [.M s,.A (rU v)] (Jo s v) AV.bool:=by
 refine ci 9 1 func89 (Jo.eq_1 _ _) fun h0 ids hI hF=>Y<|B3 0 (.A (rU v)) fun g=>Ac (.B false)<|O<|Ao ?_
 refine Y<|Z 2 [0] [(6,.A (rU v)),(5,.M s)]<|oc ((Acb s v) _) fun r _=>Z 2 [] [(4,.B (decide (r≥0)))]<|O<|rt
theorem Ou (c):CP Tryz.prog 53 [.A (Aq c)] (Fl c) AV.bool:=by
 refine ci 8 1 func53 (Fl.eq_1 _) fun h0 ids hI hF=>Y<|B3 0 (.A (Aq c)) fun g=>Ac (.B false)<|O<|Ao ?_
 refine Y<|Z 3 [0] [(5,.A (rU (#v[0,0,0,0,0,0,0,0,0,0,0,0,0,0,0,0,0,0,0,0,0,0,0,0,0,0,0,0,0,0,0,0]:(Vector Int 32)))),(4,.M c.Commitments)]<|oc ((Zz c.Commitments (#v[0,0,0,0,0,0,0,0,0,0,0,0,0,0,0,0,0,0,0,0,0,0,0,0,0,0,0,0,0,0,0,0]:(Vector Int 32))) _) fun r _=>Z 2 [] [(2,.B (!r))]<|O<|rt
theorem Afd (c):CP Tryz.prog 182 [.A (Aq c)] (Og c) AV.bool:=by
 refine ci 16 1 func182 (Og.eq_1 _) fun h0 ids hI hF=>Y<|B3 0 (.A (Aq c)) fun g=>Ac (.B false)<|O<|Ao ?_
 refine Y<|Z 1 [0] [(3,.A (Aq c))]<|oc ((Ou c) _) fun r _=>Z 2 [] [(6,.B (!r))]<|B8 9 6 15 [] (.B ((!r)&&((wi ((c.Openings.length:Int)+(c.Outcome.length:Int)))==0))) J ?_ (fun hb1 hJ=>?_) (fun hb1 hJ=>?_)
 ·refine Ac (.B ((!r)&&((wi ((c.Openings.length:Int)+(c.Outcome.length:Int)))==0)))<|O<|rt
 ·refine Z 2 [0] [(8,.sl 37 (List.map At c.Openings))]<|Co (tj:=6) (.I (c.Openings.length:Int)) J J J (Cf (Dr Sb))<|Z 2 [0] [(11,.K c.Outcome)]<|Co (tj:=6) (.I (c.Outcome.length:Int)) J J J (Cf (Dr A8))<|Z 3 [] [(15,.B ((wi ((c.Openings.length:Int)+(c.Outcome.length:Int)))==0))]<|A4 hJ (.cons (K6 hb1) .nil)
 refine Z 9 [] [(15,.B false)]<|A4 hJ (.cons (Kx hb1) .nil)
theorem Aa2 (a):CP Tryz.prog 120 [.int .i64 a] (Sl a) AV.bool:=by
 refine ci 6 0 func120 (Sl.eq_1 _) fun h0 ids hI hF=>Y<|Ac (.B false)<|O<|Y<|Z 4 [] [(2,.B (a != a))]<|O<|rt
theorem Po (a y):CP Tryz.prog 94 [.int .i64 a,.int .i64 y] (Jh a y) (.int .i64):=by
 refine ci 20 0 func94 (Jh.eq_1 _ _) fun h0 ids hI hF=>Y<|Ac (.I 0)<|O<|Y<|Al (.I a)<|oc ((Aa2 a) _) fun xNaN _=>Ac (.B xNaN)<|O<|Y<|Al (.I y)<|oc ((Aa2 y) _) fun yNaN _=>Ac (.B yNaN)<|O<|Ab<|Y<|Aw (.B xNaN) J Bj ?_
 refine O<|A6 J (fun hc=>?_) (fun hc=>?_)
 ·refine Ab<|Y<|Al (.B yNaN)<|O<|A6 J (fun hc1=>?_) (fun hc1=>?_)
  ·refine Y<|Ac (.I 0)<|O<|rt
  refine Ah<|Y<|Ac (.I (-1))<|O<|rt
 refine Ah<|Ab<|Y<|Al (.B yNaN)<|O<|A6 J (fun hc2=>?_) (fun hc2=>?_)
 ·refine Y<|Ac (.I 1)<|O<|rt
 refine Ah<|Ab<|Y<|Z 3 [] [(16,.B (decide (a<y)))]<|O<|Dk J (fun hc3=>?_) (fun hc3=>?_)
 ·refine Y<|Ac (.I (-1))<|O<|rt
 refine Ah<|Ab<|Y<|Z 3 [] [(19,.B (decide (a > y)))]<|O<|Dk J (fun hc4=>?_) (fun hc4=>?_)
 ·refine Y<|Ac (.I 1)<|O<|rt
 refine Ah<|Y<|Ac (.I 0)<|O<|rt
theorem Amq (vals):CP Tryz.prog 93 [.K vals] (We vals) (.int .i64):=by
 refine ci 18 0 func93 (We.eq_1 _) fun h0 ids hI hF=>Y<|Ac (.I 0)<|O<|Y<|Ac (.I 0)<|O<|Ab<|Y<|Al (.K vals)<|Br vals<|Al (.I 0)<|O<|An<|Ca [3,6,7,8] ?_
 refine Ep (P:=Tryz.prog) vals (fun _ a=>fun _=>M9 a) ((alt (fun _=>.ok 0) (fun r=>.ok r)):(Unit ⊕ Int)→R Int) (fun j=>fun _=>fun fr h=>fr=Ad [(3,.I 0),(6,.K vals),(7,.I (vals.length:Int)),(8,.I j)]∧h=hp h0 ids []) () ?_ ?_ ?_
 ·exact⟨J,J⟩
 ·rintro j a ha W hW _ fr h ⟨rfl,rfl⟩
  refine Af (m':=M9 a) J (Af (M9.eq_1 _) ?_)
  refine Y<|Av (.B (decide ((j:Int)<(vals.length:Int))))<|O<|Ab<|C1 (t:=6) (L:=vals) J fun hlim=>By J (Int.ofNat_lt.2 (Ay ha))<|Ah<|Ab<|An<|Y<|Aw (.cp [.I a] 0) J (As (Cu A8 Bk J ha))<|Z 2 [] [(5,.I a)]<|O<|Y<|Z 3 [] [(14,.B (a != 0))]<|O<|A6 J (fun hc=>?_) (fun hc=>?_)
  ·refine Y<|Z 2 [] [(2,.I a)]<|O<|E4<|Ez<|rt
  refine Ah<|Ax<|Ai<|Z 2 [] [(8,.I (wi ((j:Int)+1)))]<|O<|A2 (E5 (hW () _ _ ⟨J,J⟩)) (.r2 (.r (.o (ic ha hlim))))
 rintro _ fr h ⟨rfl,rfl⟩
 refine Af (Fs _ _ _)<|Y<|Av (.B (decide ((vals.length:Int)<(vals.length:Int))))<|O<|Ab<|B0 J (Int.lt_irrefl _)<|Bg J<|Y<|Z 2 [] [(2,.I 0)]<|O<|rt
theorem W8 (a b):CP Tryz.prog 56 [.A (At a),.A (At b)] (Mk a b) (.int .i64):=by
 refine ci 17 2 func56 (Mk.eq_1 _ _) fun h0 ids hI hF=>Y<|B3 0 (.A (At a)) fun g=>B3 1 (.A (At b)) fun g1=>Ac (.I 0)<|O<|Ao ?_
 refine Ab<|Bt [0,1,0,4,15,0,32,0,128,511,1023,2047,4095] [pR 0,pR 1,pR 2,pR 3,pR 5,pR 6,pR 7,pR 8,pE 4,pE 9,pE 10,pE 11,pR 12] Dc<|Ap [0,1,0,1] [(5,.ptr (ix ids 0) g 0 1),(6,.I a.Flight),(7,.ptr (ix ids 1) g1 0 1),(8,.I b.Flight),(10,.ptr (ix ids 0) g 0 2),(11,.I a.Slot),(12,.ptr (ix ids 1) g1 0 2),(13,.I b.Slot)]<|Lf ((Po a.Flight b.Flight) _) (hpd:=(C2 [1,0])) fun r _=>?_
 refine Lf ((Po a.Slot b.Slot) _) fun r1 _=>?_
 refine Gn J J (fun _ _=>J) (fun K hK=>L6 (e:=rJ) (L:=[r,r1]) (st:=1) (rows:=[[.I r],[.I r1]]) A8 Bk J J J J J (.cons (RowSim.refl _) (.cons (RowSim.refl _) .nil)) (fun x=>Bv x) J J (hK _ _ Cq ?_))
 clear hK K
 refine Lf ((Amq [r,r1]) _) fun r2 _=>?_
 refine Ap [] [(4,.I r2)]<|A7<|rt
theorem Oq (s v):CP Tryz.prog 51 [.K s,.int .i64 v] (F9 s v) (.int .i64):=by
 refine ci 19 0 func51 (F9.eq_1 _ _) fun h0 ids hI hF=>Y<|Ac (.I 0)<|O<|Ab<|Y<|Al (.K s)<|Br s<|Al (.I 0)<|O<|An<|Ca [0,1,7,8] ?_
 refine Ep (P:=Tryz.prog) s (fun j a=>fun _=>Ox v j a) ((alt (fun _=>.ok (-1)) (fun r=>.ok r)):(Unit ⊕ Int)→R Int) (fun j=>fun _=>fun fr h=>fr=Ad [(0,.K s),(1,.I v),(7,.I (s.length:Int)),(8,.I j)]∧h=hp h0 ids []) () ?_ ?_ ?_
 ·exact⟨J,J⟩
 ·rintro j a ha W hW _ fr h ⟨rfl,rfl⟩
  refine Af (m':=Ox v j a) J (Af (Ox.eq_1 _ _ _) ?_)
  refine Y<|Av (.B (decide ((j:Int)<(s.length:Int))))<|O<|Ab<|C1 (t:=0) (L:=s) J fun hlim=>By J (Int.ofNat_lt.2 (Ay ha))<|Ah<|Ab<|An<|Y<|Z 2 [] [(5,.I j)]<|O<|Y<|Z 3 [] [(13,.I j),(12,.K s),(11,.I v)]<|Aw (.cp [.I a] 0) J (As (Cu A8 Bk J ha))<|Z 2 [] [(16,.B (v==a))]<|O<|A6 J (fun hc=>?_) (fun hc=>?_)
  ·refine Y<|Z 2 [] [(4,.I j)]<|O<|E4<|Ez<|rt
  refine Ah<|Ax<|Ai<|Z 2 [] [(8,.I (wi ((j:Int)+1)))]<|O<|A2 (E5 (hW () _ _ ⟨J,J⟩)) (.r2 (.r (.o (ic ha hlim))))
 rintro _ fr h ⟨rfl,rfl⟩
 refine Af (Fs _ _ _)<|Y<|Av (.B (decide ((s.length:Int)<(s.length:Int))))<|O<|Ab<|B0 J (Int.lt_irrefl _)<|Bg J<|Y<|Ac (.I (-1))<|O<|rt
theorem Xi (airline flight):CP Tryz.prog 59 [.int .i64 airline,.int .i64 flight] (Jy airline flight) AV.bool:=by
 refine ci 19 0 func59 (Jy.eq_1 _ _) fun h0 ids hI hF=>Y<|Ac (.B false)<|O<|Y<|Z 3 [] [(7,.B (decide (airline≥0)))]<|B8 3 7 10 [1] (.B ((decide (airline≥0))&&(decide (airline<8)))) J ?_ (fun hb1 hJ=>?_) (fun hb1 hJ=>?_)
 ·refine Al (.B ((decide (airline≥0))&&(decide (airline<8))))<|B8 3 11 14 [1] (.B (((decide (airline≥0))&&(decide (airline<8)))&&(decide (flight≥0)))) J ?_ (fun hb3 hJ1=>?_) (fun hb3 hJ1=>?_)
  ·refine Al (.B (((decide (airline≥0))&&(decide (airline<8)))&&(decide (flight≥0))))<|B8 3 15 18 [] (.B ((((decide (airline≥0))&&(decide (airline<8)))&&(decide (flight≥0)))&&(decide (flight≤4095)))) J ?_ (fun hb5 hJ2=>?_) (fun hb5 hJ2=>?_)
   ·refine Ac (.B ((((decide (airline≥0))&&(decide (airline<8)))&&(decide (flight≥0)))&&(decide (flight≤4095))))<|O<|rt
   ·refine Z 3 [] [(18,.B (decide (flight≤4095)))]<|A4 hJ2 (.cons (K6 hb5) .nil)
   refine Z 3 [] [(18,.B false)]<|A4 hJ2 (.cons (Kx hb5) .nil)
  ·refine Z 3 [] [(14,.B (decide (flight≥0)))]<|A4 hJ1 (.r (.cons (K6 hb3) .nil))
  refine Z 3 [] [(14,.B false)]<|A4 hJ1 (.r (.cons (Kx hb3) .nil))
 ·refine Z 3 [] [(10,.B (decide (airline<8)))]<|A4 hJ (.r (.cons (K6 hb1) .nil))
 refine Z 3 [] [(10,.B false)]<|A4 hJ (.r (.cons (Kx hb1) .nil))
theorem Yp (c):CP Tryz.prog 60 [.int .i64 c] (Kt c) AV.bool:=by
 refine ci 9 0 func60 (Kt.eq_1 _) fun h0 ids hI hF=>Y<|Ac (.B false)<|O<|Y<|Z 3 [] [(5,.B (decide (c≥(-1))))]<|B8 3 5 8 [] (.B ((decide (c≥(-1)))&&(decide (c≤1048576)))) J ?_ (fun hb1 hJ=>?_) (fun hb1 hJ=>?_)
 ·refine Ac (.B ((decide (c≥(-1)))&&(decide (c≤1048576))))<|O<|rt
 ·refine Z 3 [] [(8,.B (decide (c≤1048576)))]<|A4 hJ (.cons (K6 hb1) .nil)
 refine Z 3 [] [(8,.B false)]<|A4 hJ (.cons (Kx hb1) .nil)
theorem Ahq (W_:Value→R (Int×Bool))(cp_W_ : ∀ (v:Value),CP Tryz.prog 148 [(.A (Ce v))] (W_ v) (fun(p:(Int×Bool))=>AV.tup [(.int .i64 p.1),(.B p.2)]))(v:Value):CP Tryz.prog 148 [(.A (Ce v))] (N6 W_ v) (fun(p:(Int×Bool))=>AV.tup [(.int .i64 p.1),(.B p.2)]):=by
 refine ci 74 3 func148 (N6.eq_1 _ _) fun h0 ids hI hF=>Y<|B3 0 (.A (Ce v)) fun g=>Z 2 [] [(2,.I 0)]<|O<|Ao ?_
 refine Y<|Z 4 [0] [(12,.B (v.S==[]))]<|B8 5 12 17 [1,2] (.B ((v.S==[])&&((v.L.length:Int)==0))) J ?_ (fun hb1 hJ=>?_) (fun hb1 hJ=>?_)
 ·refine Z 4 [0] [(21,.B (v.N==0))]<|B8 5 21 26 [1,2,17] (.B ((v.N==0)&&((v.L.length:Int)==0))) J ?_ (fun hb3 hJ1=>?_) (fun hb3 hJ1=>?_)
  ·refine Z 4 [0] [(30,.B (v.N==0))]<|B8 4 30 34 [1,2,17,26] (.B ((v.N==0)&&(v.S==[]))) J ?_ (fun hb5 hJ2=>?_) (fun hb5 hJ2=>?_)
   ·refine Aw (.A ((rV rB) (#v[false,(v.S==[])&&((v.L.length:Int)==0),(v.N==0)&&((v.L.length:Int)==0),(v.N==0)&&(v.S==[])]:(Vector Bool 4)))) J (Gu (Aof Am1 Zd J))<|F2 (j:=1) (row:=((rV rB) (Bw 4 false))) hI J J J J Am1 (J2 (n:=4) (e:=rB) (E:=(fun x:Bool=>(AV.bool x))) (fun _=>J) _).symm ((Db (fun x=>Avt x) J) _) fun g1=>B5 (E3 (v:=(.A ((rV rB) (#v[false,(v.S==[])&&((v.L.length:Int)==0),(v.N==0)&&((v.L.length:Int)==0),(v.N==0)&&(v.S==[])]:(Vector Bool 4))))) hI J J J Am1 J J J (((Db (fun x=>Avt x) J) _).1) J)<|O<|Ao ?_
    refine Ab<|Y<|Z 4 [0] [(39,.B (decide (v.Kind<1)))]<|B8 4 39 43 [1,2,4] (.B ((decide (v.Kind<1))||(decide (v.Kind > 3)))) J ?_ (fun hb7 hJ3=>?_) (fun hb7 hJ3=>?_)
    ·refine Al (.B ((decide (v.Kind<1))||(decide (v.Kind > 3))))<|I3 6 44 50 [1,2] .bool J ?_ (fun hb9 hJ4=>?_) (fun hb9 hJ4=>?_)
     ·intro b
      refine O<|A6 J (fun hc=>?_) (fun hc=>?_)
      ·refine Y<|Z 2 [] [(3,.B false),(2,.I 0)]<|O<|B2 func148 hI J (.tupL .s2)
      refine Ah<|Ab<|Y<|Z 3 [0] [(53,.B (decide (v.Kind<3)))]<|O<|Dk J (fun hc1=>?_) (fun hc1=>?_)
      ·refine Y<|Z 2 [] [(3,.B true),(2,.I 0)]<|O<|B2 func148 hI J (.tupL .s2)
      refine Ah<|Ab<|Y<|Z 2 [0] [(55,.sl 4 (List.map rValueA v.L))]<|Br v.L<|Al (.I 0)<|O<|An<|B9 3<|Ca [2,55,56,57] ?_
      refine Ep (P:=Tryz.prog) v.L (fun _ a=>fun depth=>Ia W_ a depth) ((alt (fun depth=>.ok ((wi (depth+1)),true)) (fun r=>.ok r)):(Int ⊕ (Int×Bool))→R (Int×Bool)) (fun j=>fun depth=>fun fr h=>fr=Ad [(2,.I depth),(55,.sl 4 (List.map rValueA v.L)),(56,.I (v.L.length:Int)),(57,.I j)]∧h=hp h0 ids [none,none,none]) 0 ?_ ?_ ?_
      ·exact⟨J,J⟩
      ·rintro j a ha W hW depth fr h ⟨rfl,rfl⟩
       refine Af (m':=Ia W_ a depth) J (Af (Ia.eq_1 _ _ _) ?_)
       refine Y<|Av (.B (decide ((j:Int)<(v.L.length:Int))))<|O<|Ab<|C1 (t:=55) (L:=v.L) J fun hlim=>By J (Int.ofNat_lt.2 (Ay ha))<|Ah<|Ab<|An<|Y<|Aw (.cp (Ce a) 0) J (As (Aip Wq K8 P0 J ha))<|Av (.A (Ce a))<|Cp 2 P0 fun g2=>Bo (.A (Ce a)) ?_
       refine O<|Ao ?_
       refine Y<|Z 1 [2] [(62,.A (Ce a))]<|oc ((cp_W_ a) _) fun r _=>Z 5 [] [(8,.B r.2),(7,.I r.1)]<|O<|Ab<|Y<|Z 2 [] [(67,.B (!r.2))]<|O<|Md J (fun hc2=>?_) (fun hc2=>?_)
       ·refine Ah<|Ai<|Z 2 [] [(69,.I r.1),(68,.I depth)]<|Aw (.I (if r.1 > depth then r.1 else depth)) J (Ayw J)<|Ac (.I (if r.1 > depth then r.1 else depth))<|O<|Ax<|Ai<|Z 2 [] [(57,.I (wi ((j:Int)+1)))]<|O<|B9 4<|A2 (E5 (hW (if r.1 > depth then r.1 else depth) _ _ ⟨J,J⟩)) (.r2 (.r (.o (ic ha hlim))))
       refine Y<|Z 2 [] [(3,.B false),(2,.I 0)]<|O<|E4<|Ez<|B2 func148 hI J (.tupL .s2)
      rintro depth fr h ⟨rfl,rfl⟩
      refine Af (Fs _ _ _)<|Y<|Av (.B (decide ((v.L.length:Int)<(v.L.length:Int))))<|O<|Ab<|B0 J (Int.lt_irrefl _)<|Bg J<|Y<|Z 4 [] [(3,.B true),(2,.I (wi (depth+1)))]<|O<|B2 func148 hI J (.tupL .s2)
     ·refine Z 6 [] [(50,.B true)]<|C0 (hJ4 true)
     refine Z 2 [0] [(46,.I v.Kind)]<|Cb fun hi=>Co (tj:=44) (.ptr (ix ids 1) g1 0 (Int.toNat v.Kind)) J J J (As (Jk Am1 Zd J hi))<|Co (tj:=44) (.B (Az (#v[false,(v.S==[])&&((v.L.length:Int)==0),(v.N==0)&&((v.L.length:Int)==0),(v.N==0)&&(v.S==[])]:(Vector Bool 4)) (Int.toNat v.Kind) false)) J J J (Ba (A3 hI J J J Zd (Gb (e:=rB) (E:=(fun x:Bool=>(AV.bool x))) (fun _=>J) (Jx hi) false)))<|Z 2 [] [(50,.B (!(Az (#v[false,(v.S==[])&&((v.L.length:Int)==0),(v.N==0)&&((v.L.length:Int)==0),(v.N==0)&&(v.S==[])]:(Vector Bool 4)) (Int.toNat v.Kind) false)))]<|C0 (hJ4 (!(Az (#v[false,(v.S==[])&&((v.L.length:Int)==0),(v.N==0)&&((v.L.length:Int)==0),(v.N==0)&&(v.S==[])]:(Vector Bool 4)) (Int.toNat v.Kind) false)))
    ·refine Z 4 [] [(43,.B true)]<|A4 hJ3 (.r2 (.r (.cons (Ev hb7) .nil)))
    refine Z 4 [0] [(43,.B (decide (v.Kind > 3)))]<|A4 hJ3 (.r2 (.r (.cons (Eu hb7) .nil)))
   ·refine Z 4 [0] [(34,.B (v.S==[]))]<|A4 hJ2 (.r4 (.cons (K6 hb5) .nil))
   refine Z 4 [] [(34,.B false)]<|A4 hJ2 (.r4 (.cons (Kx hb5) .nil))
  ·refine Z 2 [0] [(23,.sl 4 (List.map rValueA v.L))]<|Co (tj:=21) (.I (v.L.length:Int)) J J J (Cf (Dr K8))<|Z 2 [] [(26,.B ((v.L.length:Int)==0))]<|A4 hJ1 (.r2 (.r (.cons (K6 hb3) .nil)))
  refine Z 5 [] [(26,.B false)]<|A4 hJ1 (.r2 (.r (.cons (Kx hb3) .nil)))
 ·refine Z 2 [0] [(14,.sl 4 (List.map rValueA v.L))]<|Co (tj:=12) (.I (v.L.length:Int)) J J J (Cf (Dr K8))<|Z 2 [] [(17,.B ((v.L.length:Int)==0))]<|A4 hJ (.r2 (.cons (K6 hb1) .nil))
 refine Z 5 [] [(17,.B false)]<|A4 hJ (.r2 (.cons (Kx hb1) .nil))
theorem Ahm : ∀ (n:Nat) (v:Value),CP Tryz.prog 148 [(.A (Ce v))] (Ht n v) (fun(p:(Int×Bool))=>AV.tup [(.int .i64 p.1),(.B p.2)]):=by
 intro n
 induction n with
 | zero=>intro v; exact fun h hb=>absurd rfl hb
 | succ n ih=>intro v; exact Ahq (Ht n) ih v
theorem Akb (v:Value):CP Tryz.prog 148 [(.A (Ce v))] (Rn v) (fun(p:(Int×Bool))=>AV.tup [(.int .i64 p.1),(.B p.2)]):=Ahm Wl v
theorem Alg (v):CP Tryz.prog 121 [.A (Ce v)] (Qn v) (.int .i64):=by
 refine ci 16 1 func121 (Qn.eq_1 _) fun h0 ids hI hF=>Y<|B3 0 (.A (Ce v)) fun g=>Ac (.I 0)<|O<|Ao ?_
 refine Y<|Z 1 [0] [(6,.A (Ce v))]<|oc ((Akb v) _) fun r _=>Z 5 [] [(4,.B r.2),(3,.I r.1)]<|O<|Ab<|An<|Y<|Z 3 [] [(10,.B (!r.2))]<|O<|Md J (fun hc=>?_) (fun hc=>?_)
 ·refine Y<|Z 3 [] [(13,.B (decide (r.1 > 16)))]<|O<|Dk J (fun hc1=>?_) (fun hc1=>?_)
  ·refine Y<|Ac (.I 2)<|O<|rt
  refine Ah<|Ax<|Y<|Ac (.I 0)<|O<|rt
 refine Y<|Ac (.I 1)<|O<|rt
theorem Aeq (h0:Aa)(o0:Nat)(o1:Nat)(hI0:Ids h0 [o0,o1] 2):La≠.bad→Bd Tryz.prog 122 [] (hp h0 [o0,o1] [none,none]) (D2 (fun a_ v h' => ∃ (g2:Nat),∃ (g3:Nat),v=(.ptr o0 g2 0 0)∧h'=hp h0 [o0,o1] [Aj g2 4 [[.nilf,(.func (.func 149) [] []),(.func (.func 152) [] []),(.func (.func 153) [] [(.ptr o1 g3 0 0)])]],Aj g3 1 [[(.ptr o0 g2 0 0)]]]) h0 (La)):=by
 refine Dm (n:=18) 0 func122 J (by decide) J J hI0 J fun ids he hI=>?_
 clear hI0
 obtain rfl:ix ids 0=o0:=he 0 rfl
 obtain rfl:ix ids 1=o1:=he 1 rfl
 clear he
 refine Du (Af (La.eq_1) ?_)
 refine Y<|Ac .nilp<|O<|Y<|Aw (.A [.nilf,.nilf,.nilf,.nilf]) J (Gu (Aof Qx Qy J))<|B3 0 (.A [.nilf,.nilf,.nilf,.nilf]) fun g=>Cp 1 Azh fun g1=>Bo (.q ids 0 g) ?_
 refine O<|Ao ?_
 refine Y<|Z 2 [1] [(5,.q ids 0 g)]<|Aw (.ptr (ix ids 0) g 0 1) J (As (Jz 1 Qx Qy J J))<|Av (.ptr (ix ids 0) g 0 1)<|Bo (.func (.func 149) [] []) ?_
 refine O<|Ao ?_
 refine Y<|Z 2 [1] [(9,.q ids 0 g)]<|Aw (.ptr (ix ids 0) g 0 2) J (As (Jz 2 Qx Qy J J))<|Av (.ptr (ix ids 0) g 0 2)<|Bo (.func (.func 152) [] []) ?_
 refine O<|Ao ?_
 refine Y<|Z 3 [1] [(14,.q ids 0 g),(13,.func (.func 153) [] [.q ids 1 g1])]<|Aw (.ptr (ix ids 0) g 0 3) J (As (Jz 3 Qx Qy J J))<|Av (.ptr (ix ids 0) g 0 3)<|Bo (.func (.func 153) [] [.q ids 1 g1]) ?_
 refine O<|Ao ?_
 refine Y<|Z 2 [1] [(0,.q ids 0 g)]<|O<|Gs (K:=2) (N:=0) [Aj g 4 [[.nilf,.func (.func 149) [] [],.func (.func 152) [] [],.func (.func 153) [] [.q ids 1 g1]]],Aj g1 1 [[.q ids 0 g]]] func122 hI J J J (.keep (.keep .nil)) (.same _) ⟨g,g1,J,J⟩
theorem Aho (n):CP Tryz.prog 151 [.int .i64 n] (Rh n) (.int .u64):=by
 refine ci 10 0 func151 (Rh.eq_1 _) fun h0 ids hI hF=>Y<|Ac (.int .u64 0)<|O<|Y<|Al (.I n)<|Av (.int .u64 (IntKind.wrap .u64 n))<|Aw (.int .u64 (S6 .u64 (IntKind.wrap .u64 n) 1)) J (Bl J J (Adr (by decide)))<|Al (.I n)<|Aw (.I (Int.fdiv n 9223372036854775808)) J (Bl J J (Kc (by decide) (by decide)))<|Av (.int .u64 (IntKind.wrap .u64 (Int.fdiv n 9223372036854775808)))<|Aw (.int .u64 (C4 .u64 (S6 .u64 (IntKind.wrap .u64 n) 1) (IntKind.wrap .u64 (Int.fdiv n 9223372036854775808)))) J (Bl J J L1)<|Ac (.int .u64 (C4 .u64 (S6 .u64 (IntKind.wrap .u64 n) 1) (IntKind.wrap .u64 (Int.fdiv n 9223372036854775808))))<|O<|rt
theorem P2 (u:Int)(l:List Int)(h0:Aa)(o0:Nat)(v1:AV)(g:Nat)(vH:Bh v1 o0 g l.length)(hI0:Ids h0 [o0] 1):F3 u l≠.bad→Bd Tryz.prog 150 [v1,(.int .u64 u)] (hp h0 [o0] [A9 v1 g 1 (List.map (rI .u8) l)]) (D2 (fun a_ v h' => ∃ (v6:AV),∃ (g5:Nat),Bh v6 o0 g5 a_.length∧v6=v∧h'=hp h0 [o0] [A9 v6 g5 1 (List.map (rI .u8) a_)]) h0 (F3 u l)):=by
 refine Dm (n:=20) 0 func150 J (by decide) J J hI0 J fun ids he hI=>?_
 clear hI0
 obtain rfl:ix ids 0=o0:=he 0 rfl
 clear he
 refine Du (Af (F3.eq_1 _ _) ?_)
 refine Y<|Ac .emp<|O<|Ab<|C5 (Da fun u2 b1=>Il u2 b1) (Da fun u2 b1=>fun fr h => ∃ (v4:AV),∃ (g3:Nat),Bh v4 (ix ids 0) g3 b1.length∧fr=Ad [(0,v4),(1,.int .u64 u2)]∧h=hp h0 ids [A9 v4 g3 1 (List.map (rI .u8) b1)]) ?_ fun hJ=>?_
 ·rintro⟨u2,b1⟩ fr h ⟨v4,g3,vH3,rfl,rfl⟩
  refine Af (Il.eq_1 _ _)<|Y<|Z 2 [] [(16,.int .u64 u2),(15,v4)]<|Av (.int .u8 (IntKind.wrap .u8 u2))<|Fi (e:=(rI .u8)) (L:=[IntKind.wrap .u8 u2]) (st:=1) (rows:=[[.int .u8 (IntKind.wrap .u8 u2)]]) J Dz G2 J J J J J (.cons (RowSim.refl _) .nil) (fun x=>Bv x) J J<|Cb fun hl1=>Ex (e:=(rI .u8)) (L:=b1) (L2:=[IntKind.wrap .u8 u2]) (v:=v4) (g:=g3) (st:=1) (j:=0) hI J J J J vH3 J (E2 J) Dz Dz J G2 J J J hl1 fun v5 g4 vH4=>Ac v5<|O<|Ao ?_
  exact Gs (K:=1) (N:=0) [A9 v5 g4 1 (List.map (rI .u8) (b1++[IntKind.wrap .u8 u2]))] func150 hI J J J (.keep .nil) (.same _) ⟨v5,g4,vH4,J,J⟩
 refine An<|Ca [0,1] ?_
 refine Jb (P:=Tryz.prog) (Da fun u1 b=>Ip u1 b) ((Da fun u2 b1=>Il u2 b1):(Int×(List Int))→R (List Int)) (Da fun u1 b=>fun fr h => ∃ (v2:AV),∃ (g1:Nat),Bh v2 (ix ids 0) g1 b.length∧fr=Ad [(0,v2),(1,.int .u64 u1)]∧h=hp h0 ids [A9 v2 g1 1 (List.map (rI .u8) b)]) (u,l) ?_ ?_
 ·exact⟨v1,g,vH,J,J⟩
 rintro vW hW ⟨u1,b⟩ fr h ⟨v2,g1,vH1,rfl,rfl⟩
 refine Af (m':=Ip u1 b) J (Af (Ip.eq_1 _ _) ?_)
 refine Ab<|Y<|Z 2 [] [(6,.B (decide (u1≥128)))]<|O<|Dk J (fun hc=>?_) (fun hc=>?_)
 ·refine Ah<|Ab<|An<|Ai<|Z 2 [] [(10,.int .u64 u1),(9,v2)]<|Av (.int .u8 (IntKind.wrap .u8 u1))<|Aw (.int .u8 (Nw .u8 (IntKind.wrap .u8 u1) 128)) J (Bl J J Aat)<|Fi (e:=(rI .u8)) (L:=[Nw .u8 (IntKind.wrap .u8 u1) 128]) (st:=1) (rows:=[[.int .u8 (Nw .u8 (IntKind.wrap .u8 u1) 128)]]) J Dz G2 J J J J J (.cons (RowSim.refl _) .nil) (fun x=>Bv x) J J<|Cb fun hl=>Ex (e:=(rI .u8)) (L:=b) (L2:=[Nw .u8 (IntKind.wrap .u8 u1) 128]) (v:=v2) (g:=g1) (st:=1) (j:=0) hI J J J J vH1 J (E2 J) Dz Dz J G2 J J J hl fun v3 g2 vH2=>Ac v3<|O<|Ao ?_
  refine Ax<|Ai<|Al (.int .u64 u1)<|Aw (.int .u64 (Int.fdiv u1 128)) J (Bl J J (Kc (by decide) (by decide)))<|Ac (.int .u64 (Int.fdiv u1 128))<|O<|A2 (Gw (hW ((Int.fdiv u1 128),b++[Nw .u8 (IntKind.wrap .u8 u1) 128]) _ _ ⟨v3,g2,vH2,J,J⟩))
 refine Bg J<|H2<|A2 (hJ (u1,b) _ _ ⟨v2,g1,vH1,J,J⟩)
theorem O4 (v1:Value)(l:List Int)(h0:Aa)(o0:Nat)(v2:AV)(g:Nat)(vH:Bh v2 o0 g l.length)(hI0:Ids h0 [o0] 1):Ek v1 l≠.bad→Bd Tryz.prog 149 [v2,(.A (Ce v1))] (hp h0 [o0] [A9 v2 g 1 (List.map (rI .u8) l)]) (D2 (fun a_ v h' => ∃ (v5:AV),∃ (g4:Nat),Bh v5 o0 g4 a_.length∧v5=v∧h'=hp h0 [o0] [A9 v5 g4 1 (List.map (rI .u8) a_)]) h0 (Ek v1 l)):=by
 refine Dm (n:=12) 1 func149 J (by decide) J J hI0 J fun ids he hI=>?_
 clear hI0
 obtain rfl:ix ids 0=o0:=he 0 rfl
 clear he
 refine Du (Af (Ek.eq_1 _ _) ?_)
 refine Ao ?_
 refine Y<|B3 1 (.A (Ce v1)) fun g1=>Ac .emp<|O<|Ao ?_
 refine Ab<|Bt [0,0,3,0,8,31,63,127] [pR 0,pR 3,pR 4,pE 1,pE 2,pE 5,pE 6,pR 7] Dc<|Ap [1] [(5,v2),(8,.ptr (ix ids 1) g1 0 1),(9,.I v1.N)]<|Gn J J (fun _ _=>J) (fun K hK=>L6 (e:=(rI .u8)) (L:=[1]) (st:=1) (rows:=[[.int .u8 1]]) Dz G2 J J J J J (.cons (RowSim.refl _) .nil) (fun x=>Bv x) J J (hK _ _ (C2 [1]) ?_))
 clear hK K
 refine Fu fun hl=>Gn J J (fun _ _=>J) (fun K hK=>Pz (e:=(rI .u8)) (L:=l) (L2:=[1]) (v:=v2) (g:=g) (st:=1) (j:=0) hI J J J vH J (E2 J) Dz Dz J G2 J J J hl fun v3 g2 vH1=>hK _ _ (C2 [1]) ?_)
 clear hK K
 refine Lb _ J J J J J ((Aho v1.N) _) (fun v _ _ _=>Cy (K:=1) (N:=1) func149 hI) Cq fun r _=>Fo [0] hI J J (P2 r (l++[1]) _ (ix ids 0) v3 g2 vH1 (by exact hI.sub' J J)) J J J J J J J (fun v _ _ _=>Cy (K:=1) (N:=1) func149 hI) ?_
 rintro r1 _ _ _ ⟨v4,g3,vH2,rfl,rfl⟩
 refine Gf [0] [A9 v4 g3 1 (List.map (rI .u8) r1),Aj g1 4 [Ce v1]] hI J J J J ⟨Cq,?_⟩
 refine Gh<|Ap [] [(4,v4)]<|A7<|Ao ?_
 exact Gs (K:=1) (N:=1) [A9 v4 g3 1 (List.map (rI .u8) r1)] func149 hI J J J (.keep (.drop .nil)) (.same _) ⟨v4,g3,vH2,J,J⟩
theorem O7 (v1:Value)(l:List Int)(h0:Aa)(o0:Nat)(v2:AV)(g:Nat)(vH:Bh v2 o0 g l.length)(hI0:Ids h0 [o0] 1):F4 v1 l≠.bad→Bd Tryz.prog 152 [v2,(.A (Ce v1))] (hp h0 [o0] [A9 v2 g 1 (List.map (rI .u8) l)]) (D2 (fun a_ v h' => ∃ (v6:AV),∃ (g5:Nat),Bh v6 o0 g5 a_.length∧v6=v∧h'=hp h0 [o0] [A9 v6 g5 1 (List.map (rI .u8) a_)]) h0 (F4 v1 l)):=by
 refine Dm (n:=16) 1 func152 J (by decide) J J hI0 J fun ids he hI=>?_
 clear hI0
 obtain rfl:ix ids 0=o0:=he 0 rfl
 clear he
 refine Du (Af (F4.eq_1 _ _) ?_)
 refine Ao ?_
 refine Y<|B3 1 (.A (Ce v1)) fun g1=>Ac .emp<|O<|Ao ?_
 refine Ab<|Bt [0,0,3,0,8,24,56,127,0,256,1023,2047] [pR 0,pR 3,pR 4,pR 5,pR 6,pR 8,pR 9,pE 1,pE 2,pE 7,pE 10,pR 11] Dc<|Ap [1] [(5,v2),(8,.ptr (ix ids 1) g1 0 2),(9,.str v1.S)]<|A0 (.I (v1.S.length:Int)) J J (Cf (Ak0 ti9))<|A0 (.int .u64 (IntKind.wrap .u64 (v1.S.length:Int))) J J (Uf (Wn Bk Zq))<|Ap [1] [(13,.ptr (ix ids 1) g1 0 2),(14,.str v1.S)]<|Gn J J (fun _ _=>J) (fun K hK=>L6 (e:=(rI .u8)) (L:=[2]) (st:=1) (rows:=[[.int .u8 2]]) Dz G2 J J J J J (.cons (RowSim.refl _) .nil) (fun x=>Bv x) J J (hK _ _ (Ae J (Ba (A3 hI J J J ti9 J)) (Ae J (Hs (Mr 0 2 2 P0 J ti9 J)) (Ae J (Uf (Wn Bk Zq)) (Ae J (Cf (Ak0 ti9)) (Ae J (Ba (A3 hI J J J ti9 J)) (Ae J (Hs (Mr 0 2 2 P0 J ti9 J)) (Ae J Bj Dp))))))) ?_))
 clear hK K
 refine Fu fun hl=>Gn J J (fun _ _=>J) (fun K hK=>Pz (e:=(rI .u8)) (L:=l) (L2:=[2]) (v:=v2) (g:=g) (st:=1) (j:=0) hI J J J vH J (E2 J) Dz Dz J G2 J J J hl fun v3 g2 vH1=>hK _ _ (Ae J (Ba (A3 hI J J J ti9 J)) (Ae J (Hs (Mr 0 2 2 P0 J ti9 J)) (Ae J (Uf (Wn Bk Zq)) (Ae J (Cf (Ak0 ti9)) (Ae J (Ba (A3 hI J J J ti9 J)) (Ae J (Hs (Mr 0 2 2 P0 J ti9 J)) (Jd J Dp))))))) ?_)
 clear hK K
 refine Fo [0] hI J J (P2 (IntKind.wrap .u64 (v1.S.length:Int)) (l++[2]) _ (ix ids 0) v3 g2 vH1 (by exact hI.sub' J J)) J J J J J J J (fun v _ _ _=>Cy (K:=1) (N:=1) func152 hI) ?_
 rintro r _ _ _ ⟨v4,g3,vH2,rfl,rfl⟩
 refine Gf [0] [A9 v4 g3 1 (List.map (rI .u8) r),Aj g1 4 [Ce v1]] hI J J J J ⟨C2 [1],?_⟩
 refine Gh<|Fu fun hl1=>Gn J J (fun _ _=>J) (fun K hK=>Pz (e:=(rI .u8)) (L:=r) (L2:=(Nl v1.S)) (v:=v4) (g:=g3) (st:=1) (j:=0) hI J J J vH2 J (Axa J J) Dz ti9 J G2 J J J hl1 fun v5 g4 vH3=>hK _ _ Cq ?_)
 clear hK K
 refine Ap [] [(4,v5)]<|A7<|Ao ?_
 exact Gs (K:=1) (N:=1) [A9 v5 g4 1 (List.map (rI .u8) (r++(Nl v1.S)))] func152 hI J J J (.keep (.drop .nil)) (.same _) ⟨v5,g4,vH3,J,J⟩
theorem Zw (W_:Value→(List Int)→R (List Int))(cg_W_ : ∀ (v1:Value) (l:List Int) (h0:Aa) (o0:Nat) (o1:Nat) (o2:Nat) (v2:AV) (g:Nat) (g1:Nat) (g2:Nat) (vH:Bh v2 o0 g l.length) (hI0:Ids h0 [o0,o1,o2] 3),W_ v1 l≠.bad→Bd Tryz.prog 153 [v2,(.A (Ce v1)),(.ptr o1 g1 0 0)] (hp h0 [o0,o1,o2] [A9 v2 g 1 (List.map (rI .u8) l),Aj g1 1 [[(.ptr o2 g2 0 0)]],Aj g2 4 [[.nilf,(.func (.func 149) [] []),(.func (.func 152) [] []),(.func (.func 153) [] [(.ptr o1 g1 0 0)])]]]) (D2 (fun a_ v h' => ∃ (v9:AV),∃ (g11:Nat),Bh v9 o0 g11 a_.length∧v9=v∧h'=hp h0 [o0,o1,o2] [A9 v9 g11 1 (List.map (rI .u8) a_),Aj g1 1 [[(.ptr o2 g2 0 0)]],Aj g2 4 [[.nilf,(.func (.func 149) [] []),(.func (.func 152) [] []),(.func (.func 153) [] [(.ptr o1 g1 0 0)])]]]) h0 (W_ v1 l)))(v1:Value)(l:List Int)(h0:Aa)(o0:Nat)(o1:Nat)(o2:Nat)(v2:AV)(g:Nat)(g1:Nat)(g2:Nat)(vH:Bh v2 o0 g l.length)(hI0:Ids h0 [o0,o1,o2] 3):Hv W_ v1 l≠.bad→Bd Tryz.prog 153 [v2,(.A (Ce v1)),(.ptr o1 g1 0 0)] (hp h0 [o0,o1,o2] [A9 v2 g 1 (List.map (rI .u8) l),Aj g1 1 [[(.ptr o2 g2 0 0)]],Aj g2 4 [[.nilf,(.func (.func 149) [] []),(.func (.func 152) [] []),(.func (.func 153) [] [(.ptr o1 g1 0 0)])]]]) (D2 (fun a_ v h' => ∃ (v9:AV),∃ (g11:Nat),Bh v9 o0 g11 a_.length∧v9=v∧h'=hp h0 [o0,o1,o2] [A9 v9 g11 1 (List.map (rI .u8) a_),Aj g1 1 [[(.ptr o2 g2 0 0)]],Aj g2 4 [[.nilf,(.func (.func 149) [] []),(.func (.func 152) [] []),(.func (.func 153) [] [(.ptr o1 g1 0 0)])]]]) h0 (Hv W_ v1 l)):=by
 refine Dm (n:=35) 2 func153 J (by decide) J J hI0 J fun ids he hI=>?_
 clear hI0
 obtain rfl:ix ids 0=o0:=he 0 rfl
 obtain rfl:ix ids 1=o1:=he 1 rfl
 obtain rfl:ix ids 2=o2:=he 2 rfl
 clear he
 refine Du (Af (Hv.eq_1 _ _ _) ?_)
 refine Ao ?_
 refine Y<|B3 3 (.A (Ce v1)) fun g3=>Ac .emp<|O<|Ao ?_
 refine Ab<|Bt [0,0,3,0,8,24,56,127,255] [pR 0,pR 3,pR 4,pR 5,pR 6,pE 1,pE 2,pE 7,pR 8] Dc<|Ap [3] [(8,v2),(11,.ptr (ix ids 3) g3 0 3),(12,.sl 4 (List.map rValueA v1.L))]<|A0 (.I (v1.L.length:Int)) J J (Cf (Dr K8))<|A0 (.int .u64 (IntKind.wrap .u64 (v1.L.length:Int))) J J (Uf (Wn Bk Zq))<|Gn J J (fun _ _=>J) (fun K hK=>L6 (e:=(rI .u8)) (L:=[3]) (st:=1) (rows:=[[.int .u8 3]]) Dz G2 J J J J J (.cons (RowSim.refl _) .nil) (fun x=>Bv x) J J (hK _ _ (Ae J (Uf (Wn Bk Zq)) (Ae J (Cf (Dr K8)) (Ae J (Ba (A3 hI J J J K8 J)) (Ae J (Hs (Mr 0 3 3 P0 J K8 J)) (Ae J Bj Dp))))) ?_))
 clear hK K
 refine Fu fun hl=>Gn J J (fun _ _=>J) (fun K hK=>Pz (e:=(rI .u8)) (L:=l) (L2:=[3]) (v:=v2) (g:=g) (st:=1) (j:=0) hI J J J vH J (E2 J) Dz Dz J G2 J J J hl fun v3 g4 vH1=>hK _ _ (Ae J (Uf (Wn Bk Zq)) (Ae J (Cf (Dr K8)) (Ae J (Ba (A3 hI J J J K8 J)) (Ae J (Hs (Mr 0 3 3 P0 J K8 J)) (Jd J Dp))))) ?_)
 clear hK K
 refine Fo [0] hI J J (P2 (IntKind.wrap .u64 (v1.L.length:Int)) (l++[3]) _ (ix ids 0) v3 g4 vH1 (by exact hI.sub' J J)) J J J J J J J (fun v _ _ _=>Cy (K:=3) (N:=2) func153 hI) ?_
 rintro b _ _ _ ⟨v4,g5,vH2,rfl,rfl⟩
 refine Gf [0] [A9 v4 g5 1 (List.map (rI .u8) b),Aj g1 1 [[.q ids 2 g2]],Aj g2 4 [[.nilf,.func (.func 149) [] [],.func (.func 152) [] [],.func (.func 153) [] [.q ids 1 g1]]],Aj g3 4 [Ce v1],none] hI J J J J ⟨Cq,?_⟩
 refine Gh<|Ap [] [(0,v4)]<|A7<|Ao ?_
 refine Ab<|Y<|Z 2 [3] [(17,.sl 4 (List.map rValueA v1.L))]<|Br v1.L<|Al (.I 0)<|O<|An<|B9 8<|Ca [0,2,17,18,19] ?_
 refine Dj (P:=Tryz.prog) v1.L (fun _ a=>fun b1=>Ha W_ a b1) (((fun b1=>.ok b1)):(List Int)→R (List Int)) (fun j=>fun b1=>fun fr h => ∃ (v5:AV),∃ (g6:Nat),Bh v5 (ix ids 0) g6 b1.length∧fr=Ad [(0,v5),(2,.q ids 1 g1),(17,.sl 4 (List.map rValueA v1.L)),(18,.I (v1.L.length:Int)),(19,.I j)]∧h=hp h0 ids [A9 v5 g6 1 (List.map (rI .u8) b1),Aj g1 1 [[.q ids 2 g2]],Aj g2 4 [[.nilf,.func (.func 149) [] [],.func (.func 152) [] [],.func (.func 153) [] [.q ids 1 g1]]],none,none]) b ?_ ?_ ?_
 ·exact⟨v4,g5,vH2,J,J⟩
 ·rintro j a ha W hW b1 fr h ⟨v5,g6,vH3,rfl,rfl⟩
  refine Af (m':=Ha W_ a b1) J (Af (Ha.eq_1 _ _ _) ?_)
  refine Y<|Av (.B (decide ((j:Int)<(v1.L.length:Int))))<|O<|Ab<|C1 (t:=17) (L:=v1.L) J fun hlim=>By J (Int.ofNat_lt.2 (Ay ha))<|Ah<|Ab<|An<|Y<|Aw (.cp (Ce a) 0) J (As (Aip Wq K8 P0 J ha))<|Av (.A (Ce a))<|Cp 4 P0 fun g7=>Bo (.A (Ce a)) ?_
  refine O<|Ao ?_
  refine Bt [0,0,2,1,15,31,63,0,0,511,1023] [pR 0,pR 1,pR 2,pR 3,pR 4,pR 5,pR 6,pR 7,pR 8,pE 9,pR 10] Dc<|Ap [1,4] [(23,.q ids 2 g2),(24,.q ids 4 g7),(25,.I a.Kind),(26,.q ids 2 g2)]<|J9 (fun hi=>?_) (fun _=>?_)
  ·refine A0 (.q ids 2 g2) J J (As (Jz 0 Qx Qy hi J))<|Ap [2,4] [(28,.q ids 2 g2),(29,.nilf),(30,v5),(31,.A (Ce a))]<|Yj
  refine J9 (fun hi=>?_) (fun _=>?_)
  ·refine A0 (.ptr (ix ids 2) g2 0 1) J J (As (Jz 1 Qx Qy hi J))<|Ap [2,4] [(28,.ptr (ix ids 2) g2 0 1),(29,.func (.func 149) [] []),(30,v5),(31,.A (Ce a))]<|Fo [0] hI J J (O4 a b1 _ (ix ids 0) v5 g6 vH3 (by exact hI.sub' J J)) J J J J J J J (fun v _ _ _=>Cy (K:=3) (N:=2) func153 hI) ?_
   rintro b2 _ _ _ ⟨v6,g8,vH4,rfl,rfl⟩
   refine Gf [0] [A9 v6 g8 1 (List.map (rI .u8) b2),Aj g1 1 [[.q ids 2 g2]],Aj g2 4 [[.nilf,.func (.func 149) [] [],.func (.func 152) [] [],.func (.func 153) [] [.q ids 1 g1]]],none,Aj g7 4 [Ce a]] hI J J J J ⟨Cq,?_⟩
   refine Gh<|Ap [] [(0,v6)]<|A7<|Ao ?_
   refine Ax<|Ai<|Z 2 [] [(19,.I (wi ((j:Int)+1)))]<|O<|B9 16<|A2 (Hg (hW b2 _ _ ⟨v6,g8,vH4,J,J⟩)) (.r4 (.o (ic ha hlim)))
  refine J9 (fun hi=>?_) (fun _=>?_)
  ·refine A0 (.ptr (ix ids 2) g2 0 2) J J (As (Jz 2 Qx Qy hi J))<|Ap [2,4] [(28,.ptr (ix ids 2) g2 0 2),(29,.func (.func 152) [] []),(30,v5),(31,.A (Ce a))]<|Fo [0] hI J J (O7 a b1 _ (ix ids 0) v5 g6 vH3 (by exact hI.sub' J J)) J J J J J J J (fun v _ _ _=>Cy (K:=3) (N:=2) func153 hI) ?_
   rintro b3 _ _ _ ⟨v7,g9,vH5,rfl,rfl⟩
   refine Gf [0] [A9 v7 g9 1 (List.map (rI .u8) b3),Aj g1 1 [[.q ids 2 g2]],Aj g2 4 [[.nilf,.func (.func 149) [] [],.func (.func 152) [] [],.func (.func 153) [] [.q ids 1 g1]]],none,Aj g7 4 [Ce a]] hI J J J J ⟨Cq,?_⟩
   refine Gh<|Ap [] [(0,v7)]<|A7<|Ao ?_
   refine Ax<|Ai<|Z 2 [] [(19,.I (wi ((j:Int)+1)))]<|O<|B9 16<|A2 (Hg (hW b3 _ _ ⟨v7,g9,vH5,J,J⟩)) (.r4 (.o (ic ha hlim)))
  refine J9 (fun hi=>?_) (fun _=>?_)
  ·refine A0 (.ptr (ix ids 2) g2 0 3) J J (As (Jz 3 Qx Qy hi J))<|Ap [2,4] [(28,.ptr (ix ids 2) g2 0 3),(29,.func (.func 153) [] [.q ids 1 g1]),(30,v5),(31,.A (Ce a))]<|Fo [0,1,2] hI J J (cg_W_ a b1 _ (ix ids 0) (ix ids 1) (ix ids 2) v5 g6 g1 g2 vH3 (by exact hI.sub' J J)) J J J J J J J (fun v _ _ _=>Cy (K:=3) (N:=2) func153 hI) ?_
   rintro b4 _ _ _ ⟨v8,g10,vH6,rfl,rfl⟩
   refine Gf [0,1,2] [A9 v8 g10 1 (List.map (rI .u8) b4),Aj g1 1 [[.q ids 2 g2]],Aj g2 4 [[.nilf,.func (.func 149) [] [],.func (.func 152) [] [],.func (.func 153) [] [.q ids 1 g1]]],none,Aj g7 4 [Ce a]] hI J J J J ⟨Cq,?_⟩
   refine Gh<|Ap [] [(0,v8)]<|A7<|Ao ?_
   refine Ax<|Ai<|Z 2 [] [(19,.I (wi ((j:Int)+1)))]<|O<|B9 16<|A2 (Hg (hW b4 _ _ ⟨v8,g10,vH6,J,J⟩)) (.r4 (.o (ic ha hlim)))
  exact Yj
 rintro b1 fr h ⟨v5,g6,vH3,rfl,rfl⟩
 refine Y<|Av (.B (decide ((v1.L.length:Int)<(v1.L.length:Int))))<|O<|Ab<|B0 J (Int.lt_irrefl _)<|Bg J<|Y<|Z 2 [] [(5,v5)]<|O<|Gs (K:=3) (N:=2) [A9 v5 g6 1 (List.map (rI .u8) b1),Aj g1 1 [[.q ids 2 g2]],Aj g2 4 [[.nilf,.func (.func 149) [] [],.func (.func 152) [] [],.func (.func 153) [] [.q ids 1 g1]]]] func153 hI J J J (.keep (.keep (.keep (.keep (.keep .nil))))) (.same _) ⟨v5,g6,vH3,J,J⟩
theorem Zj : ∀ (n:Nat) (v1:Value) (l:List Int) (h0:Aa) (o0:Nat) (o1:Nat) (o2:Nat) (v2:AV) (g:Nat) (g1:Nat) (g2:Nat) (vH:Bh v2 o0 g l.length) (hI0:Ids h0 [o0,o1,o2] 3),H0 n v1 l≠.bad→Bd Tryz.prog 153 [v2,(.A (Ce v1)),(.ptr o1 g1 0 0)] (hp h0 [o0,o1,o2] [A9 v2 g 1 (List.map (rI .u8) l),Aj g1 1 [[(.ptr o2 g2 0 0)]],Aj g2 4 [[.nilf,(.func (.func 149) [] []),(.func (.func 152) [] []),(.func (.func 153) [] [(.ptr o1 g1 0 0)])]]]) (D2 (fun a_ v h' => ∃ (v9:AV),∃ (g11:Nat),Bh v9 o0 g11 a_.length∧v9=v∧h'=hp h0 [o0,o1,o2] [A9 v9 g11 1 (List.map (rI .u8) a_),Aj g1 1 [[(.ptr o2 g2 0 0)]],Aj g2 4 [[.nilf,(.func (.func 149) [] []),(.func (.func 152) [] []),(.func (.func 153) [] [(.ptr o1 g1 0 0)])]]]) h0 (H0 n v1 l)):=by
 intro n
 induction n with
 | zero=>intro v1 l h0 o0 o1 o2 v2 g g1 g2 vH hI0; exact fun hb=>absurd rfl hb
 | succ n ih=>intro v1 l h0 o0 o1 o2 v2 g g1 g2 vH hI0; exact Zw (H0 n) ih v1 l h0 o0 o1 o2 v2 g g1 g2 vH hI0
theorem Abi (v1:Value)(l:List Int)(h0:Aa)(o0:Nat)(o1:Nat)(o2:Nat)(v2:AV)(g:Nat)(g1:Nat)(g2:Nat)(vH:Bh v2 o0 g l.length)(hI0:Ids h0 [o0,o1,o2] 3):K1 v1 l≠.bad→Bd Tryz.prog 153 [v2,(.A (Ce v1)),(.ptr o1 g1 0 0)] (hp h0 [o0,o1,o2] [A9 v2 g 1 (List.map (rI .u8) l),Aj g1 1 [[(.ptr o2 g2 0 0)]],Aj g2 4 [[.nilf,(.func (.func 149) [] []),(.func (.func 152) [] []),(.func (.func 153) [] [(.ptr o1 g1 0 0)])]]]) (D2 (fun a_ v h' => ∃ (v9:AV),∃ (g11:Nat),Bh v9 o0 g11 a_.length∧v9=v∧h'=hp h0 [o0,o1,o2] [A9 v9 g11 1 (List.map (rI .u8) a_),Aj g1 1 [[(.ptr o2 g2 0 0)]],Aj g2 4 [[.nilf,(.func (.func 149) [] []),(.func (.func 152) [] []),(.func (.func 153) [] [(.ptr o1 g1 0 0)])]]]) h0 (K1 v1 l)):=Zj Wl v1 l h0 o0 o1 o2 v2 g g1 g2 vH hI0
theorem Ac3 (v1:Value)(h0:Aa)(o0:Nat)(o1:Nat)(g:Nat)(g1:Nat)(hI0:Ids h0 [o0,o1] 2):Io v1≠.bad→Bd Tryz.prog 153 [.emp,(.A (Ce v1)),(.ptr o0 g 0 0)] (hp h0 [o0,o1] [Aj g 1 [[(.ptr o1 g1 0 0)]],Aj g1 4 [[.nilf,(.func (.func 149) [] []),(.func (.func 152) [] []),(.func (.func 153) [] [(.ptr o0 g 0 0)])]]]) (D2 (fun a_ v h'=>v=(.sl 1 (List.map (rI .u8) a_))∧h'=hp h0 [o0,o1] [Aj g 1 [[(.ptr o1 g1 0 0)]],Aj g1 4 [[.nilf,(.func (.func 149) [] []),(.func (.func 152) [] []),(.func (.func 153) [] [(.ptr o0 g 0 0)])]]]) h0 (Io v1)):=by
 refine Dm (n:=35) 3 func153 J (by decide) J J hI0 J fun ids he hI=>?_
 clear hI0
 obtain rfl:ix ids 0=o0:=he 0 rfl
 obtain rfl:ix ids 1=o1:=he 1 rfl
 clear he
 refine Du (Af (Io.eq_1 _) ?_)
 refine Ao ?_
 refine Y<|B3 2 (.A (Ce v1)) fun g2=>Ac .emp<|O<|Ao ?_
 refine Ab<|Bt [0,0,3,0,8,24,56,127,255] [pR 0,pR 3,pR 4,pR 5,pR 6,pE 1,pE 2,pE 7,pR 8] Dc<|Ap [2] [(8,.emp),(11,.ptr (ix ids 2) g2 0 3),(12,.sl 4 (List.map rValueA v1.L))]<|A0 (.I (v1.L.length:Int)) J J (Cf (Dr K8))<|A0 (.int .u64 (IntKind.wrap .u64 (v1.L.length:Int))) J J (Uf (Wn Bk Zq))<|Gn J J (fun _ _=>J) (fun K hK=>L6 (e:=(rI .u8)) (L:=[3]) (st:=1) (rows:=[[.int .u8 3]]) Dz G2 J J J J J (.cons (RowSim.refl _) .nil) (fun x=>Bv x) J J (hK _ _ (Ae J (Uf (Wn Bk Zq)) (Ae J (Cf (Dr K8)) (Ae J (Ba (A3 hI J J J K8 J)) (Ae J (Hs (Mr 0 3 3 P0 J K8 J)) (Ae J Bj Dp))))) ?_))
 clear hK K
 refine Fu fun hl=>Gn J J (fun _ _=>J) (fun K hK=>Pz (e:=(rI .u8)) (L:=([]:List Int)) (L2:=[3]) (v:=.emp) (g:=0) (st:=1) (j:=3) hI J J J .nil J (E2 J) Dz Dz J G2 J J J (by simpa using hl) fun v2 g3 vH=>hK _ _ (Ae J (Uf (Wn Bk Zq)) (Ae J (Cf (Dr K8)) (Ae J (Ba (A3 hI J J J K8 J)) (Ae J (Hs (Mr 0 3 3 P0 J K8 J)) (Jd J Dp))))) ?_)
 clear hK K
 refine Fo [3] hI J J (P2 (IntKind.wrap .u64 (v1.L.length:Int)) [3] _ (ix ids 3) v2 g3 vH (by exact hI.sub' J J)) J J J J J J J (fun v _ _ _=>Cy (K:=2) (N:=3) func153 hI) ?_
 rintro b _ _ _ ⟨v3,g4,vH1,rfl,rfl⟩
 refine Gf [3] [Aj g 1 [[.q ids 1 g1]],Aj g1 4 [[.nilf,.func (.func 149) [] [],.func (.func 152) [] [],.func (.func 153) [] [.q ids 0 g]]],Aj g2 4 [Ce v1],A9 v3 g4 1 (List.map (rI .u8) b),none] hI J J J J ⟨Cq,?_⟩
 refine Gh<|Ap [] [(0,v3)]<|A7<|Ao ?_
 refine Ab<|Y<|Z 2 [2] [(17,.sl 4 (List.map rValueA v1.L))]<|Br v1.L<|Al (.I 0)<|O<|An<|B9 4<|Ca [0,2,17,18,19] ?_
 refine Dj (P:=Tryz.prog) v1.L (fun _ a=>fun b1=>Fq a b1) (((fun b1=>.ok b1)):(List Int)→R (List Int)) (fun j=>fun b1=>fun fr h => ∃ (v4:AV),∃ (g5:Nat),Bh v4 (ix ids 3) g5 b1.length∧fr=Ad [(0,v4),(2,.q ids 0 g),(17,.sl 4 (List.map rValueA v1.L)),(18,.I (v1.L.length:Int)),(19,.I j)]∧h=hp h0 ids [Aj g 1 [[.q ids 1 g1]],Aj g1 4 [[.nilf,.func (.func 149) [] [],.func (.func 152) [] [],.func (.func 153) [] [.q ids 0 g]]],none,A9 v4 g5 1 (List.map (rI .u8) b1),none]) b ?_ ?_ ?_
 ·exact⟨v3,g4,vH1,J,J⟩
 ·rintro j a ha W hW b1 fr h ⟨v4,g5,vH2,rfl,rfl⟩
  refine Af (m':=Fq a b1) J (Af (Fq.eq_1 _ _) ?_)
  refine Y<|Av (.B (decide ((j:Int)<(v1.L.length:Int))))<|O<|Ab<|C1 (t:=17) (L:=v1.L) J fun hlim=>By J (Int.ofNat_lt.2 (Ay ha))<|Ah<|Ab<|An<|Y<|Aw (.cp (Ce a) 0) J (As (Aip Wq K8 P0 J ha))<|Av (.A (Ce a))<|Cp 4 P0 fun g6=>Bo (.A (Ce a)) ?_
  refine O<|Ao ?_
  refine Bt [0,0,2,1,15,31,63,0,0,511,1023] [pR 0,pR 1,pR 2,pR 3,pR 4,pR 5,pR 6,pR 7,pR 8,pE 9,pR 10] Dc<|Ap [0,4] [(23,.q ids 1 g1),(24,.q ids 4 g6),(25,.I a.Kind),(26,.q ids 1 g1)]<|J9 (fun hi=>?_) (fun _=>?_)
  ·refine A0 (.q ids 1 g1) J J (As (Jz 0 Qx Qy hi J))<|Ap [1,4] [(28,.q ids 1 g1),(29,.nilf),(30,v4),(31,.A (Ce a))]<|Yj
  refine J9 (fun hi=>?_) (fun _=>?_)
  ·refine A0 (.ptr (ix ids 1) g1 0 1) J J (As (Jz 1 Qx Qy hi J))<|Ap [1,4] [(28,.ptr (ix ids 1) g1 0 1),(29,.func (.func 149) [] []),(30,v4),(31,.A (Ce a))]<|Fo [3] hI J J (O4 a b1 _ (ix ids 3) v4 g5 vH2 (by exact hI.sub' J J)) J J J J J J J (fun v _ _ _=>Cy (K:=2) (N:=3) func153 hI) ?_
   rintro b2 _ _ _ ⟨v5,g7,vH3,rfl,rfl⟩
   refine Gf [3] [Aj g 1 [[.q ids 1 g1]],Aj g1 4 [[.nilf,.func (.func 149) [] [],.func (.func 152) [] [],.func (.func 153) [] [.q ids 0 g]]],none,A9 v5 g7 1 (List.map (rI .u8) b2),Aj g6 4 [Ce a]] hI J J J J ⟨Cq,?_⟩
   refine Gh<|Ap [] [(0,v5)]<|A7<|Ao ?_
   refine Ax<|Ai<|Z 2 [] [(19,.I (wi ((j:Int)+1)))]<|O<|B9 16<|A2 (Hg (hW b2 _ _ ⟨v5,g7,vH3,J,J⟩)) (.r4 (.o (ic ha hlim)))
  refine J9 (fun hi=>?_) (fun _=>?_)
  ·refine A0 (.ptr (ix ids 1) g1 0 2) J J (As (Jz 2 Qx Qy hi J))<|Ap [1,4] [(28,.ptr (ix ids 1) g1 0 2),(29,.func (.func 152) [] []),(30,v4),(31,.A (Ce a))]<|Fo [3] hI J J (O7 a b1 _ (ix ids 3) v4 g5 vH2 (by exact hI.sub' J J)) J J J J J J J (fun v _ _ _=>Cy (K:=2) (N:=3) func153 hI) ?_
   rintro b3 _ _ _ ⟨v6,g8,vH4,rfl,rfl⟩
   refine Gf [3] [Aj g 1 [[.q ids 1 g1]],Aj g1 4 [[.nilf,.func (.func 149) [] [],.func (.func 152) [] [],.func (.func 153) [] [.q ids 0 g]]],none,A9 v6 g8 1 (List.map (rI .u8) b3),Aj g6 4 [Ce a]] hI J J J J ⟨Cq,?_⟩
   refine Gh<|Ap [] [(0,v6)]<|A7<|Ao ?_
   refine Ax<|Ai<|Z 2 [] [(19,.I (wi ((j:Int)+1)))]<|O<|B9 16<|A2 (Hg (hW b3 _ _ ⟨v6,g8,vH4,J,J⟩)) (.r4 (.o (ic ha hlim)))
  refine J9 (fun hi=>?_) (fun _=>?_)
  ·refine A0 (.ptr (ix ids 1) g1 0 3) J J (As (Jz 3 Qx Qy hi J))<|Ap [1,4] [(28,.ptr (ix ids 1) g1 0 3),(29,.func (.func 153) [] [.q ids 0 g]),(30,v4),(31,.A (Ce a))]<|Fo [3,0,1] hI J J (Abi a b1 _ (ix ids 3) (ix ids 0) (ix ids 1) v4 g5 g g1 vH2 (by exact hI.sub' J J)) J J J J J J J (fun v _ _ _=>Cy (K:=2) (N:=3) func153 hI) ?_
   rintro b4 _ _ _ ⟨v7,g9,vH5,rfl,rfl⟩
   refine Gf [3,0,1] [Aj g 1 [[.q ids 1 g1]],Aj g1 4 [[.nilf,.func (.func 149) [] [],.func (.func 152) [] [],.func (.func 153) [] [.q ids 0 g]]],none,A9 v7 g9 1 (List.map (rI .u8) b4),Aj g6 4 [Ce a]] hI J J J J ⟨Cq,?_⟩
   refine Gh<|Ap [] [(0,v7)]<|A7<|Ao ?_
   refine Ax<|Ai<|Z 2 [] [(19,.I (wi ((j:Int)+1)))]<|O<|B9 16<|A2 (Hg (hW b4 _ _ ⟨v7,g9,vH5,J,J⟩)) (.r4 (.o (ic ha hlim)))
  exact Yj
 rintro b1 fr h ⟨v4,g5,vH2,rfl,rfl⟩
 refine Y<|Av (.B (decide ((v1.L.length:Int)<(v1.L.length:Int))))<|O<|Ab<|B0 J (Int.lt_irrefl _)<|Bg J<|Y<|Z 2 [] [(5,v4)]<|O<|Gs (K:=2) (N:=3) [Aj g 1 [[.q ids 1 g1]],Aj g1 4 [[.nilf,.func (.func 149) [] [],.func (.func 152) [] [],.func (.func 153) [] [.q ids 0 g]]]] func153 hI J J J (.keep (.keep (.keep (.drop (.keep .nil))))) (G3 vH2 (hI.at J J) (hI.at J J) (fun x=>Bv x)) ⟨J,J⟩
theorem Akh (v):CP Tryz.prog 96 [.A (Ce v)] (Mq v) (fun p=>AV.tup [.sl 1 (List.map (rI .u8) p.1),.int .i64 p.2]):=by
 refine ci 19 4 func96 (Mq.eq_1 _) fun h0 ids hI hF=>Y<|B3 0 (.A (Ce v)) fun g=>Z 2 [] []<|O<|Ao ?_
 refine Ab<|Y<|Z 1 [0] [(5,.A (Ce v))]<|oc ((Alg v) _) fun e _=>Ac (.I e)<|O<|Y<|Z 2 [] [(8,.B (e != 0))]<|O<|A6 J (fun hc=>?_) (fun hc=>?_)
 ·refine Y<|Z 3 [] [(3,.I e),(2,.emp)]<|O<|B2 func96 hI J (.tupL (.cons (.emp _) .s1))
 refine Ah<|Ab<|Bt [0,0,2,1,15,31,63,0,255,511,1023] [pR 1,pR 2,pR 7,pE 0,pR 3,pR 4,pR 5,pR 6,pE 8,pR 9,pR 10] Dc<|Ap [0,0] [(11,.q ids 0 g),(12,.I v.Kind),(17,.A (Ce v))]<|Fo [1,2] hI J J (Aeq _ (ix ids 1) (ix ids 2) (by exact hI.sub' J J)) J J J J J J J (fun v _ _ _=>D6 func96 hI) ?_
 rintro _ _ _ _ ⟨g1,g2,rfl,rfl⟩
 refine Gf [1,2] [Aj g 4 [Ce v],Aj g1 4 [[.nilf,.func (.func 149) [] [],.func (.func 152) [] [],.func (.func 153) [] [.q ids 2 g2]]],Aj g2 1 [[.q ids 1 g1]],none] hI J J J J ⟨C2 [0,0],?_⟩
 refine Gh<|Ap [] [(13,.q ids 1 g1)]<|J9 (fun hi=>?_) (fun _=>?_)
 ·refine A0 (.q ids 1 g1) J J (As (Jz 0 Qx Qy hi J))<|Ap [1] [(15,.q ids 1 g1),(16,.nilf)]<|Yj
 refine J9 (fun hi=>?_) (fun _=>?_)
 ·refine A0 (.ptr (ix ids 1) g1 0 1) J J (As (Jz 1 Qx Qy hi J))<|Ap [1] [(15,.ptr (ix ids 1) g1 0 1),(16,.func (.func 149) [] [])]<|Fo [3] hI J J (O4 v [] _ (ix ids 3) .emp 0 .nil (by exact hI.sub' J J)) J J J J J J J (fun v _ _ _=>D6 func96 hI) ?_
  rintro b _ _ _ ⟨v1,g3,vH,rfl,rfl⟩
  refine Gf [3] [Aj g 4 [Ce v],Aj g1 4 [[.nilf,.func (.func 149) [] [],.func (.func 152) [] [],.func (.func 153) [] [.q ids 2 g2]]],Aj g2 1 [[.q ids 1 g1]],A9 v1 g3 1 (List.map (rI .u8) b)] hI J J J J ⟨Cq,?_⟩
  refine Gh<|Ap [] [(2,v1),(3,.I 0)]<|A7<|Ao ?_
  exact B2 func96 hI J (.tupL (.cons (G3 vH (hI.at J J) (hI.out J) (fun x=>Bv x)) .s1))
 refine J9 (fun hi=>?_) (fun _=>?_)
 ·refine A0 (.ptr (ix ids 1) g1 0 2) J J (As (Jz 2 Qx Qy hi J))<|Ap [1] [(15,.ptr (ix ids 1) g1 0 2),(16,.func (.func 152) [] [])]<|Fo [3] hI J J (O7 v [] _ (ix ids 3) .emp 0 .nil (by exact hI.sub' J J)) J J J J J J J (fun v _ _ _=>D6 func96 hI) ?_
  rintro b1 _ _ _ ⟨v2,g4,vH1,rfl,rfl⟩
  refine Gf [3] [Aj g 4 [Ce v],Aj g1 4 [[.nilf,.func (.func 149) [] [],.func (.func 152) [] [],.func (.func 153) [] [.q ids 2 g2]]],Aj g2 1 [[.q ids 1 g1]],A9 v2 g4 1 (List.map (rI .u8) b1)] hI J J J J ⟨Cq,?_⟩
  refine Gh<|Ap [] [(2,v2),(3,.I 0)]<|A7<|Ao ?_
  exact B2 func96 hI J (.tupL (.cons (G3 vH1 (hI.at J J) (hI.out J) (fun x=>Bv x)) .s1))
 refine J9 (fun hi=>?_) (fun _=>?_)
 ·refine A0 (.ptr (ix ids 1) g1 0 3) J J (As (Jz 3 Qx Qy hi J))<|Ap [1] [(15,.ptr (ix ids 1) g1 0 3),(16,.func (.func 153) [] [.q ids 2 g2])]<|Fo [2,1] hI J J (Ac3 v _ (ix ids 2) (ix ids 1) g2 g1 (by exact hI.sub' J J)) J J J J J J J (fun v _ _ _=>D6 func96 hI) ?_
  rintro b2 _ _ _ ⟨rfl,rfl⟩
  refine Gf [2,1] [Aj g 4 [Ce v],Aj g1 4 [[.nilf,.func (.func 149) [] [],.func (.func 152) [] [],.func (.func 153) [] [.q ids 2 g2]]],Aj g2 1 [[.q ids 1 g1]],none] hI J J J J ⟨Cq,?_⟩
  refine Gh<|Ap [] [(2,.sl 1 (List.map (rI .u8) b2)),(3,.I 0)]<|A7<|Ao ?_
  exact B2 func96 hI J (.tupL .s2)
 exact Yj
theorem Ak7 (b):CP Tryz.prog 155 [.sl 1 (List.map (rI .u8) b)] (U0 b) (.int .u32):=by
 refine ci 19 0 func155 (U0.eq_1 _) fun h0 ids hI hF=>Y<|Ac (.int .u32 0)<|O<|Ab<|Y<|Al (.sl 1 (List.map (rI .u8) b))<|Cb fun hs=>Aw (.sl 1 (List.map (rI .u8) (b.take (Int.toNat 4)))) J (Cg (Ti Dz G2 J hs))<|Br (b.take (Int.toNat 4))<|Al (.I 0)<|O<|An<|Ca [2,6,7,8] ?_
 refine Dj (P:=Tryz.prog) (b.take (Int.toNat 4)) (fun _ a=>fun n=>Ug a n) (((fun n=>.ok n)):Int→R Int) (fun j=>fun n=>fun fr h=>fr=Ad [(2,.int .u32 n),(6,.sl 1 (List.map (rI .u8) (b.take (Int.toNat 4)))),(7,.I ((b.take (Int.toNat 4)).length:Int)),(8,.I j)]∧h=hp h0 ids []) 0 ?_ ?_ ?_
 ·exact⟨J,J⟩
 ·rintro j a ha W hW n fr h ⟨rfl,rfl⟩
  refine Af (m':=Ug a n) J (Af (Ug.eq_1 _ _) ?_)
  refine Y<|Av (.B (decide ((j:Int)<((b.take (Int.toNat 4)).length:Int))))<|O<|Ab<|C1 (t:=6) (L:=(b.take (Int.toNat 4))) J fun hlim=>By J (Int.ofNat_lt.2 (Ay ha))<|Ah<|Ab<|An<|Y<|Aw (.cp [.int .u8 a] 0) J (As (Cu Dz G2 J ha))<|Z 2 [] [(4,.int .u8 a)]<|O<|Ai<|Al (.int .u32 n)<|Aw (.int .u32 (S6 .u32 n 8)) J (Bl J J (Adr (by decide)))<|Al (.int .u8 a)<|Av (.int .u32 (wU a))<|Aw (.int .u32 (Nw .u32 (S6 .u32 n 8) (wU a))) J (Bl J J Aat) ?_
  refine Ac (.int .u32 (Nw .u32 (S6 .u32 n 8) (wU a)))<|O<|Ax<|Ai<|Z 2 [] [(8,.I (wi ((j:Int)+1)))]<|O<|A2 (Hg (hW (Nw .u32 (S6 .u32 n 8) (wU a)) _ _ ⟨J,J⟩)) (.r2 (.r (.o (ic ha hlim))))
 rintro n fr h ⟨rfl,rfl⟩
 refine Y<|Av (.B (decide (((b.take (Int.toNat 4)).length:Int)<((b.take (Int.toNat 4)).length:Int))))<|O<|Ab<|B0 J (Int.lt_irrefl _)<|Bg J<|Y<|Z 2 [] [(2,.int .u32 n)]<|O<|rt
theorem E9 (a k):CP Tryz.prog 156 [.int .u32 a,.int .i64 k] (C8 a k) (.int .u32):=by
 refine ci 17 0 func156 (C8.eq_1 _ _) fun h0 ids hI hF=>Y<|Ac (.int .u32 0)<|O<|Y<|Al (.I k)<|Av (.int .u64 (IntKind.wrap .u64 k))<|Aw (.int .u64 (Ey .u64 (IntKind.wrap .u64 k) 31)) J (Bl J J Vx)<|Ac (.int .u64 (Ey .u64 (IntKind.wrap .u64 k) 31))<|O<|Y<|Z 2 [] [(10,.int .u64 (Ey .u64 (IntKind.wrap .u64 k) 31)),(9,.int .u32 a)]<|Cb fun hz=>Aw (.int .u32 (S6 .u32 a (Ey .u64 (IntKind.wrap .u64 k) 31))) J (Bl J J (Adr hz))<|Z 3 [] [(14,.int .u64 (IntKind.wrap .u64 (32 - (Ey .u64 (IntKind.wrap .u64 k) 31)))),(12,.int .u32 a)]<|Cb fun hz1=>Aw (.int .u32 (Q5 .u32 a (IntKind.wrap .u64 (32 - (Ey .u64 (IntKind.wrap .u64 k) 31))))) J (Bl J J (Ad7 hz1))<|Aw (.int .u32 (Nw .u32 (S6 .u32 a (Ey .u64 (IntKind.wrap .u64 k) 31)) (Q5 .u32 a (IntKind.wrap .u64 (32 - (Ey .u64 (IntKind.wrap .u64 k) 31)))))) J (Bl J J Aat) ?_
 refine Ac (.int .u32 (Nw .u32 (S6 .u32 a (Ey .u64 (IntKind.wrap .u64 k) 31)) (Q5 .u32 a (IntKind.wrap .u64 (32 - (Ey .u64 (IntKind.wrap .u64 k) 31))))))<|O<|rt
theorem Zf (v a b c):CP Tryz.prog 157 [.int .u32 v,.int .i64 a,.int .i64 b,.int .i64 c] (Oa v a b c) (.int .u32):=by
 refine ci 23 0 func157 (Oa.eq_1 _ _ _ _) fun h0 ids hI hF=>Y<|Ac (.int .u32 0)<|O<|Y<|Z 3 [] [(11,.I (wi (0 - a))),(9,.int .u32 v)]<|oc ((E9 v (wi (0 - a))) _) fun r _=>Z 3 [] [(15,.I (wi (0 - b))),(13,.int .u32 v)]<|oc ((E9 v (wi (0 - b))) _) fun r1 _=>Aw (.int .u32 (C4 .u32 r r1)) J (Bl J J L1)<|Z 3 [] [(20,.I (wi (0 - c))),(18,.int .u32 v)]<|oc ((E9 v (wi (0 - c))) _) fun r2 _=>Aw (.int .u32 (C4 .u32 (C4 .u32 r r1) r2)) J (Bl J J L1)<|Ac (.int .u32 (C4 .u32 (C4 .u32 r r1) r2))<|O<|rt
theorem Qk (b:List Int)(s:(Vector Int 8))(h0:Aa)(o0:Nat)(g:Nat)(hI0:Ids h0 [o0] 1):Es b s≠.bad→Bd Tryz.prog 133 [(.ptr o0 g 0 0),(.sl 1 (List.map (rI .u8) b))] (hp h0 [o0] [Aj g 8 [((rV (rI .u32)) s)]]) (D2 (fun a_ v h'=>v=(.tup [])∧h'=hp h0 [o0] [Aj g 8 [((rV (rI .u32)) a_)]]) h0 (Es b s)):=by
 refine Dm (n:=144) 2 func133 J (by decide) J J hI0 J fun ids he hI=>?_
 clear hI0
 obtain rfl:ix ids 0=o0:=he 0 rfl
 clear he
 refine Du (Af (Es.eq_1 _ _) ?_)
 refine Ao ?_
 refine Y<|F2 (j:=1) (row:=((rV (rI .u32)) (Bw 64 0))) hI J J J J Nr (J2 (n:=64) (e:=(rI .u32)) (E:=(fun x:Int=>(AV.int .u32 x))) (fun _=>J) _).symm ((Db (fun x=>Bv x) J) _) fun g1=>O<|Ao ?_
 refine Ab<|Y<|Al (.I 0)<|O<|An<|Ca [0,1,4,14] ?_
 refine Dj (P:=Tryz.prog) (List.range 16) (fun j _=>fun o=>H1 b j o) (((fun o=>(loop (Da fun x1 o1=>Ff x1 o1) (16,o)).bind (fun o2=>Gc s o2))):(Vector Int 64)→R (Vector Int 8)) (fun j=>fun o=>fun fr h=>fr=Ad [(0,.q ids 0 g),(1,.sl 1 (List.map (rI .u8) b)),(4,.q ids 1 g1),(14,.I j)]∧h=hp h0 ids [Aj g 8 [(rV (rI .u32)) s],Aj g1 64 [(rV (rI .u32)) o],none]) (Bw 64 0) ?_ ?_ ?_
 ·exact⟨J,J⟩
 ·rintro j a ha W hW o fr h ⟨rfl,rfl⟩
  refine Af (m':=H1 b j o) J (Af (H1.eq_1 _ _ _) ?_)
  refine Y<|Av (.B (decide ((j:Int)<16)))<|O<|Ab<|By J (by have:=(Ch ha).1; omega)<|Ah<|Ab<|An<|Y<|Z 2 [] [(5,.I j)]<|O<|Ai<|Z 4 [] [(20,.I (wi (4 * (j:Int)))),(18,.sl 1 (List.map (rI .u8) b)),(17,.I j)]<|Cb fun hs=>Aw (.sl 1 (List.map (rI .u8) (b.drop (Int.toNat (wi (4 * (j:Int))))))) J (Cg (Rm Dz G2 J hs))<|Eh _ J J J J ((Ak7 (b.drop (Int.toNat (wi (4 * (j:Int)))))) _) (fun v _=>Cy (K:=1) (N:=2) func133 hI) fun r _=>Aw (.ptr (ix ids 1) g1 0 j) J (As (Dd Nr Bm J (Nat.lt_of_lt_of_le (Ch ha).1 (by decide))))<|B5 (Yf (e:=(rI .u32)) (E:=(fun x:Int=>(AV.int .u32 x))) (x:=r) (fun _=>J) hI J J J Bm J J (Nat.lt_of_lt_of_le (Ch ha).1 (by decide)) J J J)<|O ?_
  refine Ao ?_
  refine Ax<|Ai<|Z 2 [] [(14,.I (wi ((j:Int)+1)))]<|O<|A2 (Hg (hW (Ns o j r) _ _ ⟨J,J⟩)) (.r2 (.r (.cons (Jt (Ch ha).1 (by decide)) .nil)))
 rintro o fr h ⟨rfl,rfl⟩
 refine Y<|Av (.B (decide (((List.range 16).length:Int)<16)))<|O<|Ab<|B0 J (by simp)<|Bg J<|Ab<|Y<|Ac (.I 16)<|O<|C5 (fun o2=>Gc s o2) (fun o2=>fun fr h=>fr=Ad [(0,.q ids 0 g),(4,.q ids 1 g1)]∧h=hp h0 ids [Aj g 8 [(rV (rI .u32)) s],Aj g1 64 [(rV (rI .u32)) o2],none]) ?_ fun hJ=>?_
 ·rintro o2 fr h ⟨rfl,rfl⟩
  refine Af (Gc.eq_1 _ _)<|Y<|Z 3 [0] [(68,.A ((rV (rI .u32)) s))]<|F2 (j:=2) (row:=((rV (rI .u32)) (Bw 8 0))) hI J J J J Fw (J2 (n:=8) (e:=(rI .u32)) (E:=(fun x:Int=>(AV.int .u32 x))) (fun _=>J) _).symm ((Db (fun x=>Bv x) J) _) fun g2=>B5 (E3 (v:=(.A ((rV (rI .u32)) s))) hI J J J Fw J J J (((Db (fun x=>Bv x) J) _).1) J)<|O<|Ao ?_
  refine Ab<|Y<|Al (.I 0)<|O<|An<|Ca [0,4,9,69] ?_
  refine Dj (P:=Tryz.prog) (List.range 64) (fun j1 _=>fun o3=>Jp o2 j1 o3) (((fun o3=>(eachS (fun j2 _=>fun o4=>Ju o3 j2 o4) 0 (List.range 8) s).bind ((fun o4=>.ok o4)))):(Vector Int 8)→R (Vector Int 8)) (fun j1=>fun o3=>fun fr h=>fr=Ad [(0,.q ids 0 g),(4,.q ids 1 g1),(9,.q ids 2 g2),(69,.I j1)]∧h=hp h0 ids [Aj g 8 [(rV (rI .u32)) s],Aj g1 64 [(rV (rI .u32)) o2],Aj g2 8 [(rV (rI .u32)) o3]]) s ?_ ?_ ?_
  ·exact⟨J,J⟩
  ·rintro j1 a1 ha1 W hW2 o3 fr h ⟨rfl,rfl⟩
   refine Af (m':=Jp o2 j1 o3) J (Af (Jp.eq_1 _ _ _) ?_)
   refine Y<|Av (.B (decide ((j1:Int)<64)))<|O<|Ab<|By J (by have:=(Ch ha1).1; omega)<|Ah<|Ab<|An<|Y<|Z 2 [] [(10,.I j1)]<|O<|Ab<|Bt [0,1,0,4,12,31,0,64,0,256,0,1024,0,4096,15360,32512,65472,131071,0,262144,786432,2097151,0,4194304,12582912,33554431,67108863] [pR 0,pR 1,pR 2,pR 3,pR 6,pR 7,pR 8,pR 9,pR 10,pR 11,pR 12,pR 13,pR 14,pR 15,pR 16,pR 18,pR 19,pR 20,pR 22,pR 23,pR 24,pE 4,pR 5,pR 17,pR 21,pR 25,pR 26] Dc<|A0 (.ptr (ix ids 2) g2 0 7) J J (As (Dd (i:=7) Fw Bm J (by decide)))<|A0 (.int .u32 (Az o3 7 0)) J J (Ba (A3 hI J J J Bm (Gb (e:=(rI .u32)) (E:=(fun x:Int=>(AV.int .u32 x))) (fun _=>J) (by decide) 0)))<|A0 (.ptr (ix ids 2) g2 0 4) J J (As (Dd (i:=4) Fw Bm J (by decide)))<|A0 (.int .u32 (Az o3 4 0)) J J (Ba (A3 hI J J J Bm (Gb (e:=(rI .u32)) (E:=(fun x:Int=>(AV.int .u32 x))) (fun _=>J) (by decide) 0)))<|A0 (.ptr (ix ids 2) g2 0 6) J J (As (Dd (i:=6) Fw Bm J (by decide)))<|A0 (.int .u32 (Az o3 6 0)) J J (Ba (A3 hI J J J Bm (Gb (e:=(rI .u32)) (E:=(fun x:Int=>(AV.int .u32 x))) (fun _=>J) (by decide) 0))) ?_
   refine A0 (.ptr (ix ids 2) g2 0 4) J J (As (Dd (i:=4) Fw Bm J (by decide)))<|A0 (.int .u32 (Az o3 4 0)) J J (Ba (A3 hI J J J Bm (Gb (e:=(rI .u32)) (E:=(fun x:Int=>(AV.int .u32 x))) (fun _=>J) (by decide) 0)))<|A0 (.ptr (ix ids 2) g2 0 5) J J (As (Dd (i:=5) Fw Bm J (by decide)))<|A0 (.int .u32 (Az o3 5 0)) J J (Ba (A3 hI J J J Bm (Gb (e:=(rI .u32)) (E:=(fun x:Int=>(AV.int .u32 x))) (fun _=>J) (by decide) 0)))<|A0 (.ptr (ix ids 2) g2 0 6) J J (As (Dd (i:=6) Fw Bm J (by decide)))<|A0 (.int .u32 (Az o3 6 0)) J J (Ba (A3 hI J J J Bm (Gb (e:=(rI .u32)) (E:=(fun x:Int=>(AV.int .u32 x))) (fun _=>J) (by decide) 0)))<|A0 (.int .u32 (C4 .u32 (Az o3 5 0) (Az o3 6 0))) J J (Bl J J L1)<|A0 (.int .u32 (Ey .u32 (Az o3 4 0) (C4 .u32 (Az o3 5 0) (Az o3 6 0)))) J J (Bl J J Vx)<|A0 (.int .u32 (C4 .u32 (Az o3 6 0) (Ey .u32 (Az o3 4 0) (C4 .u32 (Az o3 5 0) (Az o3 6 0))))) J J (Bl J J L1)<|Ap [] [(90,.I j1)]<|A0 (.cp ((rV (rI .u32)) Tf) j1) J J (As (Ane J Nr Bm J (Ch ha1).1))<|A0 (.int .u32 (Az Tf j1 0)) J J (Ba (Zn Bm (Gb (e:=(rI .u32)) (E:=(fun x:Int=>(AV.int .u32 x))) (fun _=>J) (Ch ha1).1 0)))<|Ap [] [(94,.I j1)]<|A0 (.ptr (ix ids 1) g1 0 j1) J J (As (Dd Nr Bm J (Ch ha1).1))<|A0 (.int .u32 (Az o2 j1 0)) J J (Ba (A3 hI J J J Bm (Gb (e:=(rI .u32)) (E:=(fun x:Int=>(AV.int .u32 x))) (fun _=>J) (Ch ha1).1 0)))<|Lb _ J J J J J ((Zf (Az o3 4 0) 6 11 25) _) (fun v _ _ _=>Cy (K:=1) (N:=2) func133 hI) (Ae J (Ba (A3 hI J J J Bm (Gb (e:=(rI .u32)) (E:=(fun x:Int=>(AV.int .u32 x))) (fun _=>J) (Ch ha1).1 0))) (Ae J (As (Dd Nr Bm J (Ch ha1).1)) (Ae J Bj (Ae J (Ba (Zn Bm (Gb (e:=(rI .u32)) (E:=(fun x:Int=>(AV.int .u32 x))) (fun _=>J) (Ch ha1).1 0))) (Ae J (As (Ane J Nr Bm J (Ch ha1).1)) (Ae J Bj (Ae J (Bl J J L1) (Ae J (Bl J J Vx) (Ae J (Bl J J L1) (Ae J (Ba (A3 hI J J J Bm (Gb (e:=(rI .u32)) (E:=(fun x:Int=>(AV.int .u32 x))) (fun _=>J) (by decide) 0))) (Ae J (As (Dd (i:=6) Fw Bm J (by decide))) (Ae J (Ba (A3 hI J J J Bm (Gb (e:=(rI .u32)) (E:=(fun x:Int=>(AV.int .u32 x))) (fun _=>J) (by decide) 0))) (Ae J (As (Dd (i:=5) Fw Bm J (by decide))) (Ae J (Ba (A3 hI J J J Bm (Gb (e:=(rI .u32)) (E:=(fun x:Int=>(AV.int .u32 x))) (fun _=>J) (by decide) 0))) (Ae J (As (Dd (i:=4) Fw Bm J (by decide))) (Ae J (Ba (A3 hI J J J Bm (Gb (e:=(rI .u32)) (E:=(fun x:Int=>(AV.int .u32 x))) (fun _=>J) (by decide) 0))) (Ae J (As (Dd (i:=6) Fw Bm J (by decide))) (Hy J (Ae J (Ba (A3 hI J J J Bm (Gb (e:=(rI .u32)) (E:=(fun x:Int=>(AV.int .u32 x))) (fun _=>J) (by decide) 0))) (Ae J (As (Dd (i:=7) Fw Bm J (by decide))) Dp)))))))))))))))))))) fun r5 _=>Ap [] [(77,.int .u32 (wU ((Az o3 7 0)+r5))),(89,.int .u32 (wU ((wU ((Az o3 7 0)+r5))+(C4 .u32 (Az o3 6 0) (Ey .u32 (Az o3 4 0) (C4 .u32 (Az o3 5 0) (Az o3 6 0))))))),(93,.int .u32 (wU ((wU ((wU ((Az o3 7 0)+r5))+(C4 .u32 (Az o3 6 0) (Ey .u32 (Az o3 4 0) (C4 .u32 (Az o3 5 0) (Az o3 6 0))))))+(Az Tf j1 0)))),(97,.int .u32 (wU ((wU ((wU ((wU ((Az o3 7 0)+r5))+(C4 .u32 (Az o3 6 0) (Ey .u32 (Az o3 4 0) (C4 .u32 (Az o3 5 0) (Az o3 6 0))))))+(Az Tf j1 0)))+(Az o2 j1 0)))),(11,.int .u32 (wU ((wU ((wU ((wU ((Az o3 7 0)+r5))+(C4 .u32 (Az o3 6 0) (Ey .u32 (Az o3 4 0) (C4 .u32 (Az o3 5 0) (Az o3 6 0))))))+(Az Tf j1 0)))+(Az o2 j1 0))))]<|A7<|Ab<|Bt [0,1,3,0,8,0,32,120,0,256,0,1024,0,4096,15360,32512,65528,131071,262143] [pR 0,pR 1,pR 3,pR 4,pR 5,pR 6,pR 7,pR 8,pR 9,pR 10,pR 11,pR 12,pR 13,pR 14,pR 15,pR 16,pE 2,pR 17,pR 18] Dc<|A0 (.q ids 2 g2) J J (As (Dd (i:=0) Fw Bm J (by decide))) ?_
   refine A0 (.int .u32 (Az o3 0 0)) J J (Ba (A3 hI J J J Bm (Gb (e:=(rI .u32)) (E:=(fun x:Int=>(AV.int .u32 x))) (fun _=>J) (by decide) 0)))<|A0 (.q ids 2 g2) J J (As (Dd (i:=0) Fw Bm J (by decide)))<|A0 (.int .u32 (Az o3 0 0)) J J (Ba (A3 hI J J J Bm (Gb (e:=(rI .u32)) (E:=(fun x:Int=>(AV.int .u32 x))) (fun _=>J) (by decide) 0)))<|A0 (.ptr (ix ids 2) g2 0 1) J J (As (Dd (i:=1) Fw Bm J (by decide)))<|A0 (.int .u32 (Az o3 1 0)) J J (Ba (A3 hI J J J Bm (Gb (e:=(rI .u32)) (E:=(fun x:Int=>(AV.int .u32 x))) (fun _=>J) (by decide) 0)))<|A0 (.int .u32 (Ey .u32 (Az o3 0 0) (Az o3 1 0))) J J (Bl J J Vx)<|A0 (.ptr (ix ids 2) g2 0 2) J J (As (Dd (i:=2) Fw Bm J (by decide)))<|A0 (.int .u32 (Az o3 2 0)) J J (Ba (A3 hI J J J Bm (Gb (e:=(rI .u32)) (E:=(fun x:Int=>(AV.int .u32 x))) (fun _=>J) (by decide) 0)))<|A0 (.q ids 2 g2) J J (As (Dd (i:=0) Fw Bm J (by decide)))<|A0 (.int .u32 (Az o3 0 0)) J J (Ba (A3 hI J J J Bm (Gb (e:=(rI .u32)) (E:=(fun x:Int=>(AV.int .u32 x))) (fun _=>J) (by decide) 0)))<|A0 (.ptr (ix ids 2) g2 0 1) J J (As (Dd (i:=1) Fw Bm J (by decide)))<|A0 (.int .u32 (Az o3 1 0)) J J (Ba (A3 hI J J J Bm (Gb (e:=(rI .u32)) (E:=(fun x:Int=>(AV.int .u32 x))) (fun _=>J) (by decide) 0)))<|A0 (.int .u32 (Nw .u32 (Az o3 0 0) (Az o3 1 0))) J J (Bl J J Aat)<|A0 (.int .u32 (Ey .u32 (Az o3 2 0) (Nw .u32 (Az o3 0 0) (Az o3 1 0)))) J J (Bl J J Vx)<|A0 (.int .u32 (Nw .u32 (Ey .u32 (Az o3 0 0) (Az o3 1 0)) (Ey .u32 (Az o3 2 0) (Nw .u32 (Az o3 0 0) (Az o3 1 0))))) J J (Bl J J Aat)<|Lb _ J J J J J ((Zf (Az o3 0 0) 2 13 22) _) (fun v _ _ _=>Cy (K:=1) (N:=2) func133 hI) (Ae J (Bl J J Aat) (Ae J (Bl J J Vx) (Ae J (Bl J J Aat) (Ae J (Ba (A3 hI J J J Bm (Gb (e:=(rI .u32)) (E:=(fun x:Int=>(AV.int .u32 x))) (fun _=>J) (by decide) 0))) (Ae J (As (Dd (i:=1) Fw Bm J (by decide))) (Ae J (Ba (A3 hI J J J Bm (Gb (e:=(rI .u32)) (E:=(fun x:Int=>(AV.int .u32 x))) (fun _=>J) (by decide) 0))) (Ae J (As (Dd (i:=0) Fw Bm J (by decide))) (Ae J (Ba (A3 hI J J J Bm (Gb (e:=(rI .u32)) (E:=(fun x:Int=>(AV.int .u32 x))) (fun _=>J) (by decide) 0))) (Ae J (As (Dd (i:=2) Fw Bm J (by decide))) (Ae J (Bl J J Vx) (Ae J (Ba (A3 hI J J J Bm (Gb (e:=(rI .u32)) (E:=(fun x:Int=>(AV.int .u32 x))) (fun _=>J) (by decide) 0))) (Ae J (As (Dd (i:=1) Fw Bm J (by decide))) (Ae J (Ba (A3 hI J J J Bm (Gb (e:=(rI .u32)) (E:=(fun x:Int=>(AV.int .u32 x))) (fun _=>J) (by decide) 0))) (Ae J (As (Dd (i:=0) Fw Bm J (by decide))) (Hy J Dp))))))))))))))) fun r6 _=>Ap [] [(115,.int .u32 (wU (r6+(Nw .u32 (Ey .u32 (Az o3 0 0) (Az o3 1 0)) (Ey .u32 (Az o3 2 0) (Nw .u32 (Az o3 0 0) (Az o3 1 0))))))),(12,.int .u32 (wU (r6+(Nw .u32 (Ey .u32 (Az o3 0 0) (Az o3 1 0)) (Ey .u32 (Az o3 2 0) (Nw .u32 (Az o3 0 0) (Az o3 1 0)))))))]<|A7<|Ab<|Bt [0,0,3] [pR 0,pR 1,pE 2] Dc<|A0 (.refc (ix ids 2) g2 0 1 7 7) J J (Cg (Ali (a:=1) (b:=8) hI J J Fw Bm J J J)) ?_
   refine A0 (.refc (ix ids 2) g2 0 0 7 8) J J (Cg (Ali (a:=0) (b:=7) hI J J Fw Bm J J J)) ?_
   refine Fu fun hl=>Gn J J (fun _ _=>J) (fun K hK=>Amf (e:=(rI .u32)) (E1:=(fun x:Int=>(AV.int .u32 x))) (v:=o3) (L:=((o3.toList.drop 0).take 7)) (fun _=>J) hI J J J J (Atq (E1:=(fun x:Int=>(AV.int .u32 x))) (v:=o3) (fun _=>J) J (hI.at J J) J) Az1 Bm J J hl (hK _ _ Cq ?_))
   clear hK K
   refine A7<|Ao ?_
   refine Y<|Aw (.ptr (ix ids 2) g2 0 4) J (As (Dd (i:=4) Fw Bm J (by decide)))<|Aw (.int .u32 (Az (S7 o3 1 ((o3.toList.drop 0).take 7)) 4 0)) J (Ba (A3 hI J J J Bm (Gb (e:=(rI .u32)) (E:=(fun x:Int=>(AV.int .u32 x))) (fun _=>J) (by decide) 0)))<|Z 2 [] [(122,.int .u32 (wU ((Az (S7 o3 1 ((o3.toList.drop 0).take 7)) 4 0)+(wU ((wU ((wU ((wU ((Az o3 7 0)+r5))+(C4 .u32 (Az o3 6 0) (Ey .u32 (Az o3 4 0) (C4 .u32 (Az o3 5 0) (Az o3 6 0))))))+(Az Tf j1 0)))+(Az o2 j1 0))))))]<|Aw (.ptr (ix ids 2) g2 0 4) J (As (Dd (i:=4) Fw Bm J (by decide)))<|B5 (Yf (e:=(rI .u32)) (E:=(fun x:Int=>(AV.int .u32 x))) (x:=(wU ((Az (S7 o3 1 ((o3.toList.drop 0).take 7)) 4 0)+(wU ((wU ((wU ((wU ((Az o3 7 0)+r5))+(C4 .u32 (Az o3 6 0) (Ey .u32 (Az o3 4 0) (C4 .u32 (Az o3 5 0) (Az o3 6 0))))))+(Az Tf j1 0)))+(Az o2 j1 0)))))) (fun _=>J) hI J J J Bm J J (by decide) J J J)<|O<|Ao ?_
   refine Ai<|Z 3 [] [(126,.int .u32 (wU ((wU ((wU ((wU ((wU ((Az o3 7 0)+r5))+(C4 .u32 (Az o3 6 0) (Ey .u32 (Az o3 4 0) (C4 .u32 (Az o3 5 0) (Az o3 6 0))))))+(Az Tf j1 0)))+(Az o2 j1 0)))+(wU (r6+(Nw .u32 (Ey .u32 (Az o3 0 0) (Az o3 1 0)) (Ey .u32 (Az o3 2 0) (Nw .u32 (Az o3 0 0) (Az o3 1 0)))))))))]<|Aw (.q ids 2 g2) J (As (Dd (i:=0) Fw Bm J (by decide)))<|B5 (Yf (e:=(rI .u32)) (E:=(fun x:Int=>(AV.int .u32 x))) (x:=(wU ((wU ((wU ((wU ((wU ((Az o3 7 0)+r5))+(C4 .u32 (Az o3 6 0) (Ey .u32 (Az o3 4 0) (C4 .u32 (Az o3 5 0) (Az o3 6 0))))))+(Az Tf j1 0)))+(Az o2 j1 0)))+(wU (r6+(Nw .u32 (Ey .u32 (Az o3 0 0) (Az o3 1 0)) (Ey .u32 (Az o3 2 0) (Nw .u32 (Az o3 0 0) (Az o3 1 0))))))))) (fun _=>J) hI J J J Bm J J (by decide) J J J)<|O<|Ao ?_
   refine Ax<|Ai<|Z 2 [] [(69,.I (wi ((j1:Int)+1)))]<|O<|A2 (Hg (hW2 (Ns (Ns (S7 o3 1 ((o3.toList.drop 0).take 7)) 4 (wU ((Az (S7 o3 1 ((o3.toList.drop 0).take 7)) 4 0)+(wU ((wU ((wU ((wU ((Az o3 7 0)+r5))+(C4 .u32 (Az o3 6 0) (Ey .u32 (Az o3 4 0) (C4 .u32 (Az o3 5 0) (Az o3 6 0))))))+(Az Tf j1 0)))+(Az o2 j1 0)))))) 0 (wU ((wU ((wU ((wU ((wU ((Az o3 7 0)+r5))+(C4 .u32 (Az o3 6 0) (Ey .u32 (Az o3 4 0) (C4 .u32 (Az o3 5 0) (Az o3 6 0))))))+(Az Tf j1 0)))+(Az o2 j1 0)))+(wU (r6+(Nw .u32 (Ey .u32 (Az o3 0 0) (Az o3 1 0)) (Ey .u32 (Az o3 2 0) (Nw .u32 (Az o3 0 0) (Az o3 1 0))))))))) _ _ ⟨J,J⟩)) (.r2 (.r (.cons (Jt (Ch ha1).1 (by decide)) .nil)))
  rintro o3 fr h ⟨rfl,rfl⟩
  refine Y<|Av (.B (decide (((List.range 64).length:Int)<64)))<|O<|Ab<|B0 J (by simp)<|Bg J<|Y<|Al (.I 0)<|O<|An<|B9 2<|Ca [0,9,129] ?_
  refine Dj (P:=Tryz.prog) (List.range 8) (fun j2 _=>fun o4=>Ju o3 j2 o4) (((fun o4=>.ok o4)):(Vector Int 8)→R (Vector Int 8)) (fun j2=>fun o4=>fun fr h=>fr=Ad [(0,.q ids 0 g),(9,.q ids 2 g2),(129,.I j2)]∧h=hp h0 ids [Aj g 8 [(rV (rI .u32)) o4],none,Aj g2 8 [(rV (rI .u32)) o3]]) s ?_ ?_ ?_
  ·exact⟨J,J⟩
  ·rintro j2 a2 ha2 W hW3 o4 fr h ⟨rfl,rfl⟩
   refine Af (m':=Ju o3 j2 o4) J (Af (Ju.eq_1 _ _ _) ?_)
   refine Y<|Av (.B (decide ((j2:Int)<8)))<|O<|Ab<|By J (by have:=(Ch ha2).1; omega)<|Ah<|Ab<|An<|Y<|Z 2 [] [(13,.I j2)]<|O<|Bt [0,0,1,7,15,0,32,96,255,1,1023,2047] [pR 0,pR 1,pR 2,pR 3,pR 4,pR 5,pR 6,pR 7,pR 8,pR 9,pR 10,pE 11] Dc<|Ap [] [(132,.q ids 0 g),(133,.I j2),(134,.q ids 0 g)]<|A0 (.ptr (ix ids 0) g 0 j2) J J (As (Dd Fw Bm J (Ch ha2).1))<|A0 (.int .u32 (Az o4 j2 0)) J J (Ba (A3 hI J J J Bm (Gb (e:=(rI .u32)) (E:=(fun x:Int=>(AV.int .u32 x))) (fun _=>J) (Ch ha2).1 0)))<|Ap [] [(137,.I j2)]<|A0 (.ptr (ix ids 2) g2 0 j2) J J (As (Dd Fw Bm J (Ch ha2).1))<|A0 (.int .u32 (Az o3 j2 0)) J J (Ba (A3 hI J J J Bm (Gb (e:=(rI .u32)) (E:=(fun x:Int=>(AV.int .u32 x))) (fun _=>J) (Ch ha2).1 0)))<|Ap [] [(140,.int .u32 (wU ((Az o4 j2 0)+(Az o3 j2 0)))),(141,.q ids 0 g)] ?_
   refine A0 (.ptr (ix ids 0) g 0 j2) J J (As (Dd Fw Bm J (Ch ha2).1))<|Ic J (fun _ _=>J) (fun K hK=>Ea (Yf (e:=(rI .u32)) (E:=(fun x:Int=>(AV.int .u32 x))) (x:=(wU ((Az o4 j2 0)+(Az o3 j2 0)))) (fun _=>J) hI J J J Bm J J (Ch ha2).1 J J J) (hK _ _ Cq ?_))
   clear hK K
   refine A7<|Ao ?_
   refine Ax<|Ai<|Z 2 [] [(129,.I (wi ((j2:Int)+1)))]<|O<|A2 (Hg (hW3 (Ns o4 j2 (wU ((Az o4 j2 0)+(Az o3 j2 0)))) _ _ ⟨J,J⟩)) (.r2 (.cons (Jt (Ch ha2).1 (by decide)) .nil))
  rintro o4 fr h ⟨rfl,rfl⟩
  refine Y<|Av (.B (decide (((List.range 8).length:Int)<8)))<|O<|Ab<|B0 J (by simp)<|Bg J<|V1 (K:=1) (N:=2) (a:=o4) (vs:=[]) [Aj g 8 [(rV (rI .u32)) o4]] func133 hI J J J (.keep (.keep (.drop .nil))) (.same _) ⟨J,J⟩
 refine An<|Ca [0,4,6] ?_
 refine Jb (P:=Tryz.prog) (Da fun x1 o1=>Ff x1 o1) ((fun o2=>Gc s o2):(Vector Int 64)→R (Vector Int 8)) (Da fun x1 o1=>fun fr h=>fr=Ad [(0,.q ids 0 g),(4,.q ids 1 g1),(6,.I x1)]∧h=hp h0 ids [Aj g 8 [(rV (rI .u32)) s],Aj g1 64 [(rV (rI .u32)) o1],none]) (16,o) ?_ ?_
 ·exact⟨J,J⟩
 rintro vW1 hW1 ⟨x1,o1⟩ fr h ⟨rfl,rfl⟩
 refine Af (m':=Ff x1 o1) J (Af (Ff.eq_1 _ _) ?_)
 refine Ab<|Y<|Z 2 [] [(26,.B (decide (x1<64)))]<|O<|Dk J (fun hc=>?_) (fun hc=>?_)
 ·refine Ah<|Ab<|An<|Ab<|Bt [0,1,3,7,0,16,48,112,15,511] [pR 0,pR 1,pR 2,pR 3,pR 4,pR 5,pR 6,pR 7,pR 8,pR 9] Dc<|Ap [] [(29,.I x1),(30,.I (wi (x1 - 15)))]<|Fu fun hi=>A0 (.ptr (ix ids 1) g1 0 (Int.toNat (wi (x1 - 15)))) J J (As (Jk Nr Bm J hi))<|A0 (.int .u32 (Az o1 (Int.toNat (wi (x1 - 15))) 0)) J J (Ba (A3 hI J J J Bm (Gb (e:=(rI .u32)) (E:=(fun x:Int=>(AV.int .u32 x))) (fun _=>J) (Jx hi) 0)))<|Ap [] [(33,.I x1),(34,.I (wi (x1 - 2)))]<|Fu fun hi1=>A0 (.ptr (ix ids 1) g1 0 (Int.toNat (wi (x1 - 2)))) J J (As (Jk Nr Bm J hi1))<|A0 (.int .u32 (Az o1 (Int.toNat (wi (x1 - 2))) 0)) J J (Ba (A3 hI J J J Bm (Gb (e:=(rI .u32)) (E:=(fun x:Int=>(AV.int .u32 x))) (fun _=>J) (Jx hi1) 0)))<|Ap [] [(7,.int .u32 (Az o1 (Int.toNat (wi (x1 - 15))) 0)),(8,.int .u32 (Az o1 (Int.toNat (wi (x1 - 2))) 0))]<|A7<|Bt [0,0,2,6,14,0,32,0,224,480,0,1024,4064,8190,0,16384,49152,114688,262142,0,524768,0,3670496,7864800,0,16777216,66585056,134217726,268435455,536870911] [pR 0,pR 1,pR 2,pR 3,pR 4,pR 5,pR 7,pR 10,pR 11,pR 14,pR 15,pR 16,pR 17,pR 19,pR 21,pR 24,pR 25,pE 6,pE 8,pR 9,pR 12,pR 13,pR 18,pE 20,pE 22,pR 23,pR 26,pR 27,pR 28,pE 29] Dc<|Ap [] [(37,.I x1),(38,.I x1),(39,.I (wi (x1 - 16)))]<|Fu fun hi2=>A0 (.ptr (ix ids 1) g1 0 (Int.toNat (wi (x1 - 16)))) J J (As (Jk Nr Bm J hi2))<|A0 (.int .u32 (Az o1 (Int.toNat (wi (x1 - 16))) 0)) J J (Ba (A3 hI J J J Bm (Gb (e:=(rI .u32)) (E:=(fun x:Int=>(AV.int .u32 x))) (fun _=>J) (Jx hi2) 0)))<|Ap [] [(42,.int .u32 (Az o1 (Int.toNat (wi (x1 - 15))) 0)),(44,.int .u32 (Az o1 (Int.toNat (wi (x1 - 15))) 0)),(47,.int .u32 (Az o1 (Int.toNat (wi (x1 - 15))) 0))] ?_
  refine A0 (.int .u32 (Int.fdiv (Az o1 (Int.toNat (wi (x1 - 15))) 0) 8)) J J (Bl J J (Kc (by decide) (by decide)))<|Ap [] [(51,.I x1),(52,.I (wi (x1 - 7)))]<|Fu fun hi3=>A0 (.ptr (ix ids 1) g1 0 (Int.toNat (wi (x1 - 7)))) J J (As (Jk Nr Bm J hi3))<|A0 (.int .u32 (Az o1 (Int.toNat (wi (x1 - 7))) 0)) J J (Ba (A3 hI J J J Bm (Gb (e:=(rI .u32)) (E:=(fun x:Int=>(AV.int .u32 x))) (fun _=>J) (Jx hi3) 0)))<|Ap [] [(56,.int .u32 (Az o1 (Int.toNat (wi (x1 - 2))) 0)),(58,.int .u32 (Az o1 (Int.toNat (wi (x1 - 2))) 0)),(61,.int .u32 (Az o1 (Int.toNat (wi (x1 - 2))) 0))]<|A0 (.int .u32 (Int.fdiv (Az o1 (Int.toNat (wi (x1 - 2))) 0) 1024)) J J (Bl J J (Kc (by decide) (by decide)))<|Lb _ J J J J J ((E9 (Az o1 (Int.toNat (wi (x1 - 15))) 0) (-7)) _) (fun v _ _ _=>Cy (K:=1) (N:=2) func133 hI) (Ae J (Bl J J (Kc (by decide) (by decide))) (Ae J Bj (Ae J Bj (Ae J Bj (Ae J (Ba (A3 hI J J J Bm (Gb (e:=(rI .u32)) (E:=(fun x:Int=>(AV.int .u32 x))) (fun _=>J) (Jx hi3) 0))) (Ae J (As (Jk Nr Bm J hi3)) (Ae J (Bl J J J) (Ae J Bj (Ae J (Bl J J (Kc (by decide) (by decide))) (Ae J Bj (Ae J Bj (Jd J (Ae J (Ba (A3 hI J J J Bm (Gb (e:=(rI .u32)) (E:=(fun x:Int=>(AV.int .u32 x))) (fun _=>J) (Jx hi2) 0))) (Ae J (As (Jk Nr Bm J hi2)) (Ae J (Bl J J J) (Ae J Bj (Ae J Bj Dp))))))))))))))))) fun r1 _=>Lb _ J J J J J ((E9 (Az o1 (Int.toNat (wi (x1 - 15))) 0) (-18)) _) (fun v _ _ _=>Cy (K:=1) (N:=2) func133 hI) (Ae J (Bl J J (Kc (by decide) (by decide))) (Ae J Bj (Ae J Bj (Ae J Bj (Ae J (Ba (A3 hI J J J Bm (Gb (e:=(rI .u32)) (E:=(fun x:Int=>(AV.int .u32 x))) (fun _=>J) (Jx hi3) 0))) (Ae J (As (Jk Nr Bm J hi3)) (Ae J (Bl J J J) (Ae J Bj (Ae J (Bl J J (Kc (by decide) (by decide))) (Ae J Bj (Hy J (Ae J (Ba (A3 hI J J J Bm (Gb (e:=(rI .u32)) (E:=(fun x:Int=>(AV.int .u32 x))) (fun _=>J) (Jx hi2) 0))) (Ae J (As (Jk Nr Bm J hi2)) (Ae J (Bl J J J) (Ae J Bj (Ae J Bj Dp)))))))))))))))) fun r2 _=>A0 (.int .u32 (C4 .u32 r1 r2)) J J (Bl J J L1)<|A0 (.int .u32 (C4 .u32 (C4 .u32 r1 r2) (Int.fdiv (Az o1 (Int.toNat (wi (x1 - 15))) 0) 8))) J J (Bl J J L1)<|Ap [] [(50,.int .u32 (wU ((Az o1 (Int.toNat (wi (x1 - 16))) 0)+(C4 .u32 (C4 .u32 r1 r2) (Int.fdiv (Az o1 (Int.toNat (wi (x1 - 15))) 0) 8))))),(55,.int .u32 (wU ((wU ((Az o1 (Int.toNat (wi (x1 - 16))) 0)+(C4 .u32 (C4 .u32 r1 r2) (Int.fdiv (Az o1 (Int.toNat (wi (x1 - 15))) 0) 8))))+(Az o1 (Int.toNat (wi (x1 - 7))) 0))))]<|Lb _ J J J J J ((E9 (Az o1 (Int.toNat (wi (x1 - 2))) 0) (-17)) _) (fun v _ _ _=>Cy (K:=1) (N:=2) func133 hI) (Ae J (Bl J J J) (Ae J (Bl J J J) (Ae J (Bl J J L1) (Ae J (Bl J J L1) (Ae J (Bl J J (Kc (by decide) (by decide))) (Ae J Bj (Ae J Bj (Jd J (Ae J (Ba (A3 hI J J J Bm (Gb (e:=(rI .u32)) (E:=(fun x:Int=>(AV.int .u32 x))) (fun _=>J) (Jx hi3) 0))) (Ae J (As (Jk Nr Bm J hi3)) (Ae J (Bl J J J) (Ae J Bj (Ae J (Bl J J (Kc (by decide) (by decide))) (Ae J Bj (Hy J (Ae J (Ba (A3 hI J J J Bm (Gb (e:=(rI .u32)) (E:=(fun x:Int=>(AV.int .u32 x))) (fun _=>J) (Jx hi2) 0))) (Ae J (As (Jk Nr Bm J hi2)) (Ae J (Bl J J J) (Ae J Bj (Ae J Bj Dp)))))))))))))))))))) fun r3 _=>Lb _ J J J J J ((E9 (Az o1 (Int.toNat (wi (x1 - 2))) 0) (-19)) _) (fun v _ _ _=>Cy (K:=1) (N:=2) func133 hI) (Ae J (Bl J J J) (Ae J (Bl J J J) (Ae J (Bl J J L1) (Ae J (Bl J J L1) (Ae J (Bl J J (Kc (by decide) (by decide))) (Ae J Bj (Hy J (Ae J (Ba (A3 hI J J J Bm (Gb (e:=(rI .u32)) (E:=(fun x:Int=>(AV.int .u32 x))) (fun _=>J) (Jx hi3) 0))) (Ae J (As (Jk Nr Bm J hi3)) (Ae J (Bl J J J) (Ae J Bj (Ae J (Bl J J (Kc (by decide) (by decide))) (Ae J Bj (Hy J (Ae J (Ba (A3 hI J J J Bm (Gb (e:=(rI .u32)) (E:=(fun x:Int=>(AV.int .u32 x))) (fun _=>J) (Jx hi2) 0))) (Ae J (As (Jk Nr Bm J hi2)) (Ae J (Bl J J J) (Ae J Bj (Ae J Bj Dp))))))))))))))))))) fun r4 _=>A0 (.int .u32 (C4 .u32 r3 r4)) J J (Bl J J L1)<|A0 (.int .u32 (C4 .u32 (C4 .u32 r3 r4) (Int.fdiv (Az o1 (Int.toNat (wi (x1 - 2))) 0) 1024))) J J (Bl J J L1)<|Ap [] [(64,.int .u32 (wU ((wU ((wU ((Az o1 (Int.toNat (wi (x1 - 16))) 0)+(C4 .u32 (C4 .u32 r1 r2) (Int.fdiv (Az o1 (Int.toNat (wi (x1 - 15))) 0) 8))))+(Az o1 (Int.toNat (wi (x1 - 7))) 0)))+(C4 .u32 (C4 .u32 r3 r4) (Int.fdiv (Az o1 (Int.toNat (wi (x1 - 2))) 0) 1024)))))]<|Fu fun hi4=>A0 (.ptr (ix ids 1) g1 0 (Int.toNat x1)) J J (As (Jk Nr Bm J hi4))<|Ic J (fun _ _=>J) (fun K hK=>Ea (Yf (e:=(rI .u32)) (E:=(fun x:Int=>(AV.int .u32 x))) (x:=(wU ((wU ((wU ((Az o1 (Int.toNat (wi (x1 - 16))) 0)+(C4 .u32 (C4 .u32 r1 r2) (Int.fdiv (Az o1 (Int.toNat (wi (x1 - 15))) 0) 8))))+(Az o1 (Int.toNat (wi (x1 - 7))) 0)))+(C4 .u32 (C4 .u32 r3 r4) (Int.fdiv (Az o1 (Int.toNat (wi (x1 - 2))) 0) 1024))))) (fun _=>J) hI J J J Bm J J (Jx hi4) J J J) (hK _ _ Cq ?_))
  clear hK K
  refine A7<|Ao ?_
  refine Ax<|Ai<|Z 3 [] [(6,.I (wi (x1+1)))]<|O<|A2 (Gw (hW1 ((wi (x1+1)),Ns o1 (Int.toNat x1) (wU ((wU ((wU ((Az o1 (Int.toNat (wi (x1 - 16))) 0)+(C4 .u32 (C4 .u32 r1 r2) (Int.fdiv (Az o1 (Int.toNat (wi (x1 - 15))) 0) 8))))+(Az o1 (Int.toNat (wi (x1 - 7))) 0)))+(C4 .u32 (C4 .u32 r3 r4) (Int.fdiv (Az o1 (Int.toNat (wi (x1 - 2))) 0) 1024))))) _ _ ⟨J,J⟩))
 refine Bg J<|H2<|A2 (hJ o1 _ _ ⟨J,J⟩)
theorem Aey (c:Nat)(cp:Nat)(n:Int)(s:(Vector Int 128))(h0:Aa)(o0:Nat)(g:Nat)(vHc:c+8≤128)(hI0:Ids h0 [o0] 1):Nq c cp n s≠.bad→Bd Tryz.prog 134 [(.refc o0 g 0 c 8 cp),(.int .u64 n)] (hp h0 [o0] [Aj g 128 [(rU s)]]) (D2 (fun a_ v h'=>v=(.tup [])∧h'=hp h0 [o0] [Aj g 128 [(rU a_)]]) h0 (Nq c cp n s)):=by
 refine Dm (n:=23) 0 func134 J (by decide) J J hI0 J fun ids he hI=>?_
 clear hI0
 obtain rfl:ix ids 0=o0:=he 0 rfl
 clear he
 refine Du (Af (Nq.eq_1 _ _ _ _) ?_)
 refine Y<|Al (.refc (ix ids 0) g 0 c 8 cp)<|Aw (.I 8) J (Cf (X2 Dz))<|Al (.I 0)<|O<|An<|Ca [0,1,6,7] ?_
 refine Dj (P:=Tryz.prog) (List.range 8) (fun j _=>fun o=>Si c n j o) (((fun o=>.ok o)):(Vector Int 128)→R (Vector Int 128)) (fun j=>fun o=>fun fr h=>fr=Ad [(0,.refc (ix ids 0) g 0 c 8 cp),(1,.int .u64 n),(6,.I 8),(7,.I j)]∧h=hp h0 ids [Aj g 128 [rU o]]) s ?_ ?_ ?_
 ·exact⟨J,J⟩
 ·rintro j a ha W hW o fr h ⟨rfl,rfl⟩
  refine Af (m':=Si c n j o) J (Af (Si.eq_1 _ _ _ _) ?_)
  refine Y<|Av (.B (decide ((j:Int)<8)))<|O<|Ab<|By J (by have:=(Ch ha).1; omega)<|Ah<|Ab<|An<|Y<|Z 2 [] [(4,.I j)]<|O<|Ai<|Z 2 [] [(11,.refc (ix ids 0) g 0 c 8 cp),(10,.refc (ix ids 0) g 0 c 8 cp)]<|Aw (.I 8) J (Cf (X2 Dz))<|Z 6 [] [(18,.I (wi (8 * (j:Int)))),(16,.int .u64 n),(15,.I (wi (7 - (j:Int))))]<|Cb fun hz=>Aw (.int .u64 (Q5 .u64 n (wi (8 * (j:Int))))) J (Bl J J (Ad7 hz))<|Av (.int .u8 (IntKind.wrap .u8 (Q5 .u64 n (wi (8 * (j:Int))))))<|Cb fun hi=>?_
  refine Aw (.ptr (ix ids 0) g 0 (c+Int.toNat (wi (7 - (j:Int))))) J (As (Anz Dz G2 J hi))<|B5 (Yf (e:=(rI .u8)) (E:=(fun x:Int=>(AV.int .u8 x))) (x:=(IntKind.wrap .u8 (Q5 .u64 n (wi (8 * (j:Int)))))) (fun _=>J) hI J J J G2 J J (Av9 hi vHc) J J J)<|O<|Ao ?_
  refine Ax<|Ai<|Z 2 [] [(7,.I (wi ((j:Int)+1)))]<|O<|A2 (Hg (hW (Ns o (c+Int.toNat (wi (7 - (j:Int)))) (IntKind.wrap .u8 (Q5 .u64 n (wi (8 * (j:Int)))))) _ _ ⟨J,J⟩)) (.r2 (.r (.cons (Jt (Ch ha).1 (by decide)) .nil)))
 rintro o fr h ⟨rfl,rfl⟩
 refine Y<|Av (.B (decide (((List.range 8).length:Int)<8)))<|O<|Ab<|B0 J (by simp)<|Bg J<|V1 (K:=1) (N:=0) (a:=o) (vs:=[]) [Aj g 128 [rU o]] func134 hI J J J (.keep .nil) (.same _) ⟨J,J⟩
theorem Ab1 (c:Nat)(cp:Nat)(n:Int)(s:(Vector Int 32))(h0:Aa)(o0:Nat)(g:Nat)(vHc:c+4≤32)(hI0:Ids h0 [o0] 1):Of c cp n s≠.bad→Bd Tryz.prog 134 [(.refc o0 g 0 c 4 cp),(.int .u64 n)] (hp h0 [o0] [Aj g 32 [(rU s)]]) (D2 (fun a_ v h'=>v=(.tup [])∧h'=hp h0 [o0] [Aj g 32 [(rU a_)]]) h0 (Of c cp n s)):=by
 refine Dm (n:=23) 0 func134 J (by decide) J J hI0 J fun ids he hI=>?_
 clear hI0
 obtain rfl:ix ids 0=o0:=he 0 rfl
 clear he
 refine Du (Af (Of.eq_1 _ _ _ _) ?_)
 refine Y<|Al (.refc (ix ids 0) g 0 c 4 cp)<|Aw (.I 4) J (Cf (X2 Dz))<|Al (.I 0)<|O<|An<|Ca [0,1,6,7] ?_
 refine Dj (P:=Tryz.prog) (List.range 4) (fun j _=>fun o=>Qf c n j o) (((fun o=>.ok o)):(Vector Int 32)→R (Vector Int 32)) (fun j=>fun o=>fun fr h=>fr=Ad [(0,.refc (ix ids 0) g 0 c 4 cp),(1,.int .u64 n),(6,.I 4),(7,.I j)]∧h=hp h0 ids [Aj g 32 [rU o]]) s ?_ ?_ ?_
 ·exact⟨J,J⟩
 ·rintro j a ha W hW o fr h ⟨rfl,rfl⟩
  refine Af (m':=Qf c n j o) J (Af (Qf.eq_1 _ _ _ _) ?_)
  refine Y<|Av (.B (decide ((j:Int)<4)))<|O<|Ab<|By J (by have:=(Ch ha).1; omega)<|Ah<|Ab<|An<|Y<|Z 2 [] [(4,.I j)]<|O<|Ai<|Z 2 [] [(11,.refc (ix ids 0) g 0 c 4 cp),(10,.refc (ix ids 0) g 0 c 4 cp)]<|Aw (.I 4) J (Cf (X2 Dz))<|Z 6 [] [(18,.I (wi (8 * (j:Int)))),(16,.int .u64 n),(15,.I (wi (3 - (j:Int))))]<|Cb fun hz=>Aw (.int .u64 (Q5 .u64 n (wi (8 * (j:Int))))) J (Bl J J (Ad7 hz))<|Av (.int .u8 (IntKind.wrap .u8 (Q5 .u64 n (wi (8 * (j:Int))))))<|Cb fun hi=>?_
  refine Aw (.ptr (ix ids 0) g 0 (c+Int.toNat (wi (3 - (j:Int))))) J (As (Anz Dz G2 J hi))<|B5 (Yf (e:=(rI .u8)) (E:=(fun x:Int=>(AV.int .u8 x))) (x:=(IntKind.wrap .u8 (Q5 .u64 n (wi (8 * (j:Int)))))) (fun _=>J) hI J J J G2 J J (Av9 hi vHc) J J J)<|O<|Ao ?_
  refine Ax<|Ai<|Z 2 [] [(7,.I (wi ((j:Int)+1)))]<|O<|A2 (Hg (hW (Ns o (c+Int.toNat (wi (3 - (j:Int)))) (IntKind.wrap .u8 (Q5 .u64 n (wi (8 * (j:Int)))))) _ _ ⟨J,J⟩)) (.r2 (.r (.cons (Jt (Ch ha).1 (by decide)) .nil)))
 rintro o fr h ⟨rfl,rfl⟩
 refine Y<|Av (.B (decide (((List.range 4).length:Int)<4)))<|O<|Ab<|B0 J (by simp)<|Bg J<|V1 (K:=1) (N:=0) (a:=o) (vs:=[]) [Aj g 32 [rU o]] func134 hI J J J (.keep .nil) (.same _) ⟨J,J⟩
theorem Aet (b):CP Tryz.prog 112 [.sl 1 (List.map (rI .u8) b)] (Cx b) (fun x=>(AV.agg (rU x))):=by
 refine ci 69 3 func112 (Cx.eq_1 _) fun h0 ids hI hF=>Y<|F2 (j:=0) (row:=(rU (Bw 32 0))) hI J J J J Bp (J2 (n:=32) (e:=(rI .u8)) (E:=(fun x:Int=>(AV.int .u8 x))) (fun _=>J) _).symm ((Db (fun x=>Bv x) J) _) fun g=>O<|Ao ?_
 refine Y<|Aw (.A ((rV (rI .u32)) Adu)) J (Ba (Azc (b:=1) (c:=0) J Azo J))<|F2 (j:=1) (row:=((rV (rI .u32)) (Bw 8 0))) hI J J J J Fw (J2 (n:=8) (e:=(rI .u32)) (E:=(fun x:Int=>(AV.int .u32 x))) (fun _=>J) _).symm ((Db (fun x=>Bv x) J) _) fun g1=>B5 (E3 (v:=(.A ((rV (rI .u32)) Adu))) hI J J J Fw J J J (((Db (fun x=>Bv x) J) _).1) J)<|O<|Ao ?_
 refine Y<|Z 2 [] [(4,.func (.func 133) [.q ids 1 g1] [])]<|O<|Y<|Z 2 [] [(5,.sl 1 (List.map (rI .u8) b))]<|O<|Ab<|C5 (Da fun rest1 o1=>Li b rest1 o1) (Da fun rest1 o1=>fun fr h=>fr=Ad [(0,.sl 1 (List.map (rI .u8) b)),(2,.q ids 0 g),(3,.q ids 1 g1),(4,.func (.func 133) [.q ids 1 g1] []),(5,.sl 1 (List.map (rI .u8) rest1))]∧h=hp h0 ids [Aj g 32 [rU (Bw 32 0)],Aj g1 8 [(rV (rI .u32)) o1],none]) ?_ fun hJ2=>?_
 ·rintro⟨rest1,o1⟩ fr h ⟨rfl,rfl⟩
  refine Af (Li.eq_1 _ _ _)<|Y<|Avm (q:=128) (nn:=64) (e:=(rI .u8)) (E1:=(fun x:Int=>(AV.int .u8 x))) (y:=(0:Int)) (j:=2) (fun _=>J) hI J J J J Dz G2 J J J J J J J J fun g2=>Ac (.refc (ix ids 2) g2 0 0 64 128)<|O<|Ao ?_
  refine Y<|Z 2 [] [(23,.sl 1 (List.map (rI .u8) rest1)),(22,.refc (ix ids 2) g2 0 0 64 128)]<|Cb fun hl=>Avd (e:=(rI .u8)) (E1:=(fun x:Int=>(AV.int .u8 x))) (v:=(Bw 128 (0:Int))) (L:=rest1) (fun _=>J) hI J J J J J (E2 J) Dz G2 J J hl<|O<|Ao ?_
  refine Y<|Z 2 [] [(26,.sl 1 (List.map (rI .u8) rest1)),(25,.refc (ix ids 2) g2 0 0 64 128)]<|Br rest1<|Cb fun hi=>Aw (.ptr (ix ids 2) g2 0 (Int.toNat (rest1.length:Int))) J (As (As5 Dz G2 J hi))<|B5 (Yf (e:=(rI .u8)) (E:=(fun x:Int=>(AV.int .u8 x))) (x:=128) (fun _=>J) hI J J J G2 J J (Nat.lt_of_lt_of_le (Jx hi) (by decide)) J J J)<|O<|Ao ?_
  refine Ab<|Y<|Al (.sl 1 (List.map (rI .u8) rest1))<|Br rest1<|Av (.B (decide ((rest1.length:Int) > 55)))<|O<|Dk J (fun hc1=>?_) (fun hc1=>?_)
  ·refine Ai<|Al (.refc (ix ids 2) g2 0 0 64 128)<|Aw (.refc (ix ids 2) g2 0 0 128 128) J (Cg (Akz (a:=0) (b:=128) Dz G2 J (Alk (by decide)) Ak1 (by decide) (.inl J)))<|Ac (.refc (ix ids 2) g2 0 0 128 128)<|O<|Y<|Z 2 [] [(35,.refc (ix ids 2) g2 0 0 128 128),(34,.refc (ix ids 2) g2 0 0 128 128)]<|Aw (.I 128) J (Cf (X2 Dz))<|Av (.I 120)<|Aw (.refc (ix ids 2) g2 0 120 8 8) J (Cg (Akz (a:=120) (b:=128) Dz G2 J Ak1 (Alk (by decide)) (by decide) (.inr (by decide))))<|Al (.sl 1 (List.map (rI .u8) b))<|Br b<|Av (.int .u64 (IntKind.wrap .u64 (b.length:Int)))<|Av (.int .u64 (IntKind.wrap .u64 ((IntKind.wrap .u64 (b.length:Int)) * 8)))<|Do [2] hI J J (Aey 120 8 (IntKind.wrap .u64 ((IntKind.wrap .u64 (b.length:Int)) * 8)) (Ns (S7 (Bw 128 (0:Int)) 0 rest1) (Int.toNat (rest1.length:Int)) 128) _ (ix ids 2) g2 (by decide) (by exact hI.sub' J J)) J J J J J J (fun v _=>D6 func112 hI) ?_
   rintro r1 _ _ _ ⟨rfl,rfl⟩
   refine Hb [2] hI J J J ?_
   refine Ed<|O<|Ao ?_
   refine Ab<|C5 (fun o3=>Lh o3) (fun o3=>fun fr h=>fr=Ad [(2,.q ids 0 g),(3,.q ids 1 g1)]∧h=hp h0 ids [Aj g 32 [rU (Bw 32 0)],Aj g1 8 [(rV (rI .u32)) o3],none]) ?_ fun hJ=>?_
   ·rintro o3 fr h ⟨rfl,rfl⟩
    refine Af (Lh.eq_1 _)<|Ab<|Y<|Z 2 [1] [(54,.I 0),(53,.A ((rV (rI .u32)) o3))]<|O<|An<|B9 2<|Ca [2,53,54] ?_
    refine Dj (P:=Tryz.prog) (List.range 8) (fun j _=>fun o4=>Sr o3 j o4) (((fun o4=>.ok o4)):(Vector Int 32)→R (Vector Int 32)) (fun j=>fun o4=>fun fr h=>fr=Ad [(2,.q ids 0 g),(53,.A ((rV (rI .u32)) o3)),(54,.I j)]∧h=hp h0 ids [Aj g 32 [rU o4],none,none]) (Bw 32 0) ?_ ?_ ?_
    ·exact⟨J,J⟩
    ·rintro j a ha W hW2 o4 fr h ⟨rfl,rfl⟩
     refine Af (m':=Sr o3 j o4) J (Af (Sr.eq_1 _ _ _) ?_)
     refine Y<|Av (.B (decide ((j:Int)<8)))<|O<|Ab<|By J (by have:=(Ch ha).1; omega)<|Ah<|Ab<|An<|Y<|Al (.I j)<|Aw (.int .u32 (Az o3 j 0)) J (Am6 (Ap7 (e:=(rI .u32)) (E:=(fun x:Int=>(AV.int .u32 x))) (fun _=>J) Fw Bm J J ((Ch ha).1) 0))<|Z 2 [] [(8,.int .u32 (Az o3 j 0)),(7,.I j)]<|O<|Ai<|Z 5 [] [(62,.I (wi ((wi (4 * (j:Int)))+4))),(59,.I (wi (4 * (j:Int))))]<|Cb fun hi1=>Aw (.refc (ix ids 0) g 0 (Int.toNat (wi (4 * (j:Int)))) 4 (32 - (Int.toNat (wi (4 * (j:Int)))))) J (Cg (Apz (k:=4) hI J J Bp G2 J hi1.1 hi1.2)) ?_
     refine Al (.int .u32 (Az o3 j 0))<|Av (.int .u64 (IntKind.wrap .u64 (Az o3 j 0)))<|Do [0] hI J J (Ab1 (Int.toNat (wi (4 * (j:Int)))) (32 - (Int.toNat (wi (4 * (j:Int))))) (IntKind.wrap .u64 (Az o3 j 0)) o4 _ (ix ids 0) g (As3 hi1.2) (by exact hI.sub' J J)) J J J J J J (fun v _=>D6 func112 hI) ?_
     rintro r3 _ _ _ ⟨rfl,rfl⟩
     refine Hb [0] hI J J J ?_
     refine Ed<|O<|Ao ?_
     refine Ax<|Ai<|Z 2 [] [(54,.I (wi ((j:Int)+1)))]<|O<|A2 (Hg (hW2 r3 _ _ ⟨J,J⟩)) (.r2 (.cons (Jt (Ch ha).1 (by decide)) .nil))
    rintro o4 fr h ⟨rfl,rfl⟩
    refine Y<|Av (.B (decide (((List.range 8).length:Int)<8)))<|O<|Ab<|B0 J (by simp)<|Bg J<|Y<|Z 1 [0] [(68,.A (rU o4))]<|B5 (E3 (v:=(.A (rU o4))) hI J J J Bp J J J (((Db (fun x=>Bv x) J) _).1) J)<|O<|B2 func112 hI (Bi (A3 hI J J J Bp J) Bx) (.same _)
   refine An<|Z0 [Aj g 32 [rU (Bw 32 0)],Aj g1 8 [(rV (rI .u32)) o1],none] [(2,.q ids 0 g),(3,.q ids 1 g1),(4,.func (.func 133) [.q ids 1 g1] []),(6,.sl 1 (List.map (rI .u8) (r1.toList.take 128)))] hI J (.keep (.keep (.drop .nil))) (.s (.s (.s (.cons (Aqd (E:=(fun x:Int=>(AV.int .u8 x))) (fun _=>J) (fun _=>J) (hI.at J J) (hI.at J J) (by decide)) .nil))))<|Ca [2,3,4,6] ?_
   refine Jb (P:=Tryz.prog) (Da fun vend o2=>I2 vend o2) ((fun o3=>Lh o3):(Vector Int 8)→R (Vector Int 32)) (Da fun vend o2=>fun fr h=>fr=Ad [(2,.q ids 0 g),(3,.q ids 1 g1),(4,.func (.func 133) [.q ids 1 g1] []),(6,.sl 1 (List.map (rI .u8) vend))]∧h=hp h0 ids [Aj g 32 [rU (Bw 32 0)],Aj g1 8 [(rV (rI .u32)) o2],none]) ((r1.toList.take 128),o1) ?_ ?_
   ·exact⟨J,J⟩
   rintro vW1 hW1 ⟨vend,o2⟩ fr h ⟨rfl,rfl⟩
   refine Af (m':=I2 vend o2) J (Af (I2.eq_1 _ _) ?_)
   refine Ab<|Y<|Al (.sl 1 (List.map (rI .u8) vend))<|Br vend<|Av (.B (decide ((vend.length:Int) > 0)))<|O<|Dk J (fun hc2=>?_) (fun hc2=>?_)
   ·refine Ah<|Ab<|An<|Ai<|Z 2 [] [(50,.sl 1 (List.map (rI .u8) vend)),(49,.func (.func 133) [.q ids 1 g1] [])]<|Cb fun hs2=>Aw (.sl 1 (List.map (rI .u8) (vend.take (Int.toNat 64)))) J (Cg (Ti Dz G2 J hs2))<|Do [1] hI J J (Qk (vend.take (Int.toNat 64)) o2 _ (ix ids 1) g1 (by exact hI.sub' J J)) J J J J J J (fun v _=>D6 func112 hI) ?_
    rintro r2 _ _ _ ⟨rfl,rfl⟩
    refine Hb [1] hI J J J ?_
    refine Ed<|O<|Ao ?_
    refine Ax<|Ai<|Al (.sl 1 (List.map (rI .u8) vend))<|Cb fun hs3=>Aw (.sl 1 (List.map (rI .u8) (vend.drop (Int.toNat 64)))) J (Cg (Rm Dz G2 J hs3))<|Ac (.sl 1 (List.map (rI .u8) (vend.drop (Int.toNat 64))))<|O<|A2 (Gw (hW1 ((vend.drop (Int.toNat 64)),r2) _ _ ⟨J,J⟩))
   refine Bg J<|H2<|A2 (hJ o2 _ _ ⟨J,J⟩)
  refine Ah<|Y<|Z 2 [] [(35,.refc (ix ids 2) g2 0 0 64 128),(34,.refc (ix ids 2) g2 0 0 64 128)]<|Aw (.I 64) J (Cf (X2 Dz))<|Av (.I 56)<|Aw (.refc (ix ids 2) g2 0 56 8 72) J (Cg (Akz (a:=56) (b:=64) Dz G2 J Ak1 (Alk (by decide)) (by decide) (.inr (by decide))))<|Al (.sl 1 (List.map (rI .u8) b))<|Br b<|Av (.int .u64 (IntKind.wrap .u64 (b.length:Int)))<|Av (.int .u64 (IntKind.wrap .u64 ((IntKind.wrap .u64 (b.length:Int)) * 8)))<|Do [2] hI J J (Aey 56 72 (IntKind.wrap .u64 ((IntKind.wrap .u64 (b.length:Int)) * 8)) (Ns (S7 (Bw 128 (0:Int)) 0 rest1) (Int.toNat (rest1.length:Int)) 128) _ (ix ids 2) g2 (by decide) (by exact hI.sub' J J)) J J J J J J (fun v _=>D6 func112 hI) ?_
  rintro r4 _ _ _ ⟨rfl,rfl⟩
  refine Hb [2] hI J J J ?_
  refine Ed<|O<|Ao ?_
  refine Ab<|C5 (fun o6=>Pe o6) (fun o6=>fun fr h=>fr=Ad [(2,.q ids 0 g),(3,.q ids 1 g1)]∧h=hp h0 ids [Aj g 32 [rU (Bw 32 0)],Aj g1 8 [(rV (rI .u32)) o6],none]) ?_ fun hJ1=>?_
  ·rintro o6 fr h ⟨rfl,rfl⟩
   refine Af (Pe.eq_1 _)<|Ab<|Y<|Z 2 [1] [(54,.I 0),(53,.A ((rV (rI .u32)) o6))]<|O<|An<|B9 2<|Ca [2,53,54] ?_
   refine Dj (P:=Tryz.prog) (List.range 8) (fun j1 _=>fun o7=>U3 o6 j1 o7) (((fun o7=>.ok o7)):(Vector Int 32)→R (Vector Int 32)) (fun j1=>fun o7=>fun fr h=>fr=Ad [(2,.q ids 0 g),(53,.A ((rV (rI .u32)) o6)),(54,.I j1)]∧h=hp h0 ids [Aj g 32 [rU o7],none,none]) (Bw 32 0) ?_ ?_ ?_
   ·exact⟨J,J⟩
   ·rintro j1 a1 ha1 W hW4 o7 fr h ⟨rfl,rfl⟩
    refine Af (m':=U3 o6 j1 o7) J (Af (U3.eq_1 _ _ _) ?_)
    refine Y<|Av (.B (decide ((j1:Int)<8)))<|O<|Ab<|By J (by have:=(Ch ha1).1; omega)<|Ah<|Ab<|An<|Y<|Al (.I j1)<|Aw (.int .u32 (Az o6 j1 0)) J (Am6 (Ap7 (e:=(rI .u32)) (E:=(fun x:Int=>(AV.int .u32 x))) (fun _=>J) Fw Bm J J ((Ch ha1).1) 0))<|Z 2 [] [(8,.int .u32 (Az o6 j1 0)),(7,.I j1)]<|O<|Ai<|Z 5 [] [(62,.I (wi ((wi (4 * (j1:Int)))+4))),(59,.I (wi (4 * (j1:Int))))]<|Cb fun hi2=>Aw (.refc (ix ids 0) g 0 (Int.toNat (wi (4 * (j1:Int)))) 4 (32 - (Int.toNat (wi (4 * (j1:Int)))))) J (Cg (Apz (k:=4) hI J J Bp G2 J hi2.1 hi2.2)) ?_
    refine Al (.int .u32 (Az o6 j1 0))<|Av (.int .u64 (IntKind.wrap .u64 (Az o6 j1 0)))<|Do [0] hI J J (Ab1 (Int.toNat (wi (4 * (j1:Int)))) (32 - (Int.toNat (wi (4 * (j1:Int))))) (IntKind.wrap .u64 (Az o6 j1 0)) o7 _ (ix ids 0) g (As3 hi2.2) (by exact hI.sub' J J)) J J J J J J (fun v _=>D6 func112 hI) ?_
    rintro r6 _ _ _ ⟨rfl,rfl⟩
    refine Hb [0] hI J J J ?_
    refine Ed<|O<|Ao ?_
    refine Ax<|Ai<|Z 2 [] [(54,.I (wi ((j1:Int)+1)))]<|O<|A2 (Hg (hW4 r6 _ _ ⟨J,J⟩)) (.r2 (.cons (Jt (Ch ha1).1 (by decide)) .nil))
   rintro o7 fr h ⟨rfl,rfl⟩
   refine Y<|Av (.B (decide (((List.range 8).length:Int)<8)))<|O<|Ab<|B0 J (by simp)<|Bg J<|Y<|Z 1 [0] [(68,.A (rU o7))]<|B5 (E3 (v:=(.A (rU o7))) hI J J J Bp J J J (((Db (fun x=>Bv x) J) _).1) J)<|O<|B2 func112 hI (Bi (A3 hI J J J Bp J) Bx) (.same _)
  refine An<|Z0 [Aj g 32 [rU (Bw 32 0)],Aj g1 8 [(rV (rI .u32)) o1],none] [(2,.q ids 0 g),(3,.q ids 1 g1),(4,.func (.func 133) [.q ids 1 g1] []),(6,.sl 1 (List.map (rI .u8) (r4.toList.take 64)))] hI J (.keep (.keep (.drop .nil))) (.s (.s (.s (.cons (Aqd (E:=(fun x:Int=>(AV.int .u8 x))) (fun _=>J) (fun _=>J) (hI.at J J) (hI.at J J) (by decide)) .nil))))<|Ca [2,3,4,6] ?_
  refine Jb (P:=Tryz.prog) (Da fun vend1 o5=>M8 vend1 o5) ((fun o6=>Pe o6):(Vector Int 8)→R (Vector Int 32)) (Da fun vend1 o5=>fun fr h=>fr=Ad [(2,.q ids 0 g),(3,.q ids 1 g1),(4,.func (.func 133) [.q ids 1 g1] []),(6,.sl 1 (List.map (rI .u8) vend1))]∧h=hp h0 ids [Aj g 32 [rU (Bw 32 0)],Aj g1 8 [(rV (rI .u32)) o5],none]) ((r4.toList.take 64),o1) ?_ ?_
  ·exact⟨J,J⟩
  rintro vW3 hW3 ⟨vend1,o5⟩ fr h ⟨rfl,rfl⟩
  refine Af (m':=M8 vend1 o5) J (Af (M8.eq_1 _ _) ?_)
  refine Ab<|Y<|Al (.sl 1 (List.map (rI .u8) vend1))<|Br vend1<|Av (.B (decide ((vend1.length:Int) > 0)))<|O<|Dk J (fun hc3=>?_) (fun hc3=>?_)
  ·refine Ah<|Ab<|An<|Ai<|Z 2 [] [(50,.sl 1 (List.map (rI .u8) vend1)),(49,.func (.func 133) [.q ids 1 g1] [])]<|Cb fun hs4=>Aw (.sl 1 (List.map (rI .u8) (vend1.take (Int.toNat 64)))) J (Cg (Ti Dz G2 J hs4))<|Do [1] hI J J (Qk (vend1.take (Int.toNat 64)) o5 _ (ix ids 1) g1 (by exact hI.sub' J J)) J J J J J J (fun v _=>D6 func112 hI) ?_
   rintro r5 _ _ _ ⟨rfl,rfl⟩
   refine Hb [1] hI J J J ?_
   refine Ed<|O<|Ao ?_
   refine Ax<|Ai<|Al (.sl 1 (List.map (rI .u8) vend1))<|Cb fun hs5=>Aw (.sl 1 (List.map (rI .u8) (vend1.drop (Int.toNat 64)))) J (Cg (Rm Dz G2 J hs5))<|Ac (.sl 1 (List.map (rI .u8) (vend1.drop (Int.toNat 64))))<|O<|A2 (Gw (hW3 ((vend1.drop (Int.toNat 64)),r5) _ _ ⟨J,J⟩))
  refine Bg J<|H2<|A2 (hJ1 o5 _ _ ⟨J,J⟩)
 refine An<|Ca [0,2,3,4,5] ?_
 refine Jb (P:=Tryz.prog) (Da fun rest o=>Lk rest o) ((Da fun rest1 o1=>Li b rest1 o1):((List Int)×(Vector Int 8))→R (Vector Int 32)) (Da fun rest o=>fun fr h=>fr=Ad [(0,.sl 1 (List.map (rI .u8) b)),(2,.q ids 0 g),(3,.q ids 1 g1),(4,.func (.func 133) [.q ids 1 g1] []),(5,.sl 1 (List.map (rI .u8) rest))]∧h=hp h0 ids [Aj g 32 [rU (Bw 32 0)],Aj g1 8 [(rV (rI .u32)) o],none]) (b,Adu) ?_ ?_
 ·exact⟨J,J⟩
 rintro vW hW ⟨rest,o⟩ fr h ⟨rfl,rfl⟩
 refine Af (m':=Lk rest o) J (Af (Lk.eq_1 _ _) ?_)
 refine Ab<|Y<|Al (.sl 1 (List.map (rI .u8) rest))<|Br rest<|Av (.B (decide ((rest.length:Int)≥64)))<|O<|Dk J (fun hc=>?_) (fun hc=>?_)
 ·refine Ah<|Ab<|An<|Ai<|Z 2 [] [(18,.sl 1 (List.map (rI .u8) rest)),(17,.func (.func 133) [.q ids 1 g1] [])]<|Cb fun hs=>Aw (.sl 1 (List.map (rI .u8) (rest.take (Int.toNat 64)))) J (Cg (Ti Dz G2 J hs))<|Do [1] hI J J (Qk (rest.take (Int.toNat 64)) o _ (ix ids 1) g1 (by exact hI.sub' J J)) J J J J J J (fun v _=>D6 func112 hI) ?_
  rintro r _ _ _ ⟨rfl,rfl⟩
  refine Hb [1] hI J J J ?_
  refine Ed<|O<|Ao ?_
  refine Ax<|Ai<|Al (.sl 1 (List.map (rI .u8) rest))<|Cb fun hs1=>Aw (.sl 1 (List.map (rI .u8) (rest.drop (Int.toNat 64)))) J (Cg (Rm Dz G2 J hs1))<|Ac (.sl 1 (List.map (rI .u8) (rest.drop (Int.toNat 64))))<|O<|A2 (Gw (hW ((rest.drop (Int.toNat 64)),r) _ _ ⟨J,J⟩))
 refine Bg J<|H2<|A2 (hJ2 (rest,o) _ _ ⟨J,J⟩)
theorem Ac9 (n:Int)(h0:Aa)(o0:Nat)(hI0:Ids h0 [o0] 1):Iz n≠.bad→Bd Tryz.prog 135 [.emp,(.int .i64 n)] (hp h0 [o0] [none]) (D2 (fun a_ v h' => ∃ (v3:AV),∃ (g1:Nat),Bh v3 o0 g1 a_.length∧v3=v∧h'=hp h0 [o0] [A9 v3 g1 1 (List.map (rI .u8) a_)]) h0 (Iz n)):=by
 refine Dm (n:=27) 0 func135 J (by decide) J J hI0 J fun ids he hI=>?_
 clear hI0
 obtain rfl:ix ids 0=o0:=he 0 rfl
 clear he
 refine Du (Af (Iz.eq_1 _) ?_)
 refine Y<|Ac .emp<|O<|Ab<|Y<|Z 2 [] [(6,.B (decide (n<0)))]<|O<|Dk J (fun hc=>?_) (fun hc=>?_)
 ·refine Ai<|Av (.iface 9 (.str [99,97,110,110,111,116,32,98,101,32,110,101,103,97,116,105,118,101]))<|Xq (v:=⟨9,.str [99,97,110,110,111,116,32,98,101,32,110,101,103,97,116,105,118,101]⟩) J J (Cy (K:=1) (N:=0) func135 hI)
 refine Ah<|Ab<|Y<|Z 2 [] [(9,.emp),(8,.I n)]<|Aw (.I 0) J (Ajg (Ag7 Dz))<|Al .emp<|Aw (.I 0) J (Cf (Ahf Dz))<|Z 3 [] [(1,.I (wi (n - 0)))]<|O<|Y<|Z 2 [] [(16,.B (decide ((wi (n - 0)) > 0)))]<|O<|Dk J (fun hc1=>?_) (fun hc1=>?_)
 ·refine Ai<|Z 2 [] [(18,.emp),(17,.emp)]<|Aw (.I 0) J (Ajg (Ag7 Dz))<|Aw .emp J (Cg (Aqz Dz G2))<|Al (.I (wi (n - 0)))<|Cb fun hl=>Ajd (e:=(rI .u8)) (y:=0) (i:=(wi (n - 0))) (st:=1) (j:=0) hI J J J J J J Dz Bk G2 J J J J J hl fun v1 g vH=>Al .emp<|Aw (.I 0) J (Cf (Ahf Dz))<|Cb fun hs=>Ajq (e:=(rI .u8)) (L:=(List.replicate (Int.toNat (wi (n - 0))) (0:Int))) (j:=0) J hI J J J vH J J Dz G2 J hs fun v2 vH1=>Ac v2<|O<|Ao ?_
  refine Y<|Z 2 [] [(4,v2)]<|O<|Gs (K:=1) (N:=0) [A9 v2 g 1 (List.map (rI .u8) ((List.replicate (Int.toNat (wi (n - 0))) (0:Int)).take (Int.toNat 0)))] func135 hI J J J (.keep .nil) (.same _) ⟨v2,g,vH1,J,J⟩
 refine Ah<|Y<|Z 2 [] [(4,.emp)]<|O<|Gs (K:=1) (N:=0) [A9 .emp 0 1 (List.map (rI .u8) [])] func135 hI J J J (.drop .nil) (.same _) ⟨.emp,0,.nil,J,J⟩
theorem Ab7 (slices:(List (List Int))):CPO Tryz.prog 113 [(.sl 1 (List.map (rL 1 (rI .u8)) slices))] (F6 slices) 1 (rI .u8):=by
 refine Nv (n:=36) 0 func113 J (by decide) J J fun h0 ids hI=>Du (Af (F6.eq_1 _) ?_)
 refine Y<|Ac .emp<|O<|Y<|Ac (.I 0)<|O<|Ab<|Y<|Al (.sl 1 (List.map (rL 1 (rI .u8)) slices))<|Br slices<|Al (.I 0)<|O<|An<|Ca [0,3,9,10,11] ?_
 refine Dj (P:=Tryz.prog) slices (fun _ a=>fun size=>Ig a size) (((fun size=>(Iz size).bind fun newslice=>(eachS (fun _ a1=>fun newslice1=>If a1 newslice1) 0 slices newslice).bind ((fun newslice1=>.ok newslice1)))):Int→R (List Int)) (fun j=>fun size=>fun fr h=>fr=Ad [(0,.sl 1 (List.map (rL 1 (rI .u8)) slices)),(3,.I size),(9,.sl 1 (List.map (rL 1 (rI .u8)) slices)),(10,.I (slices.length:Int)),(11,.I j)]∧h=hp h0 ids [none]) 0 ?_ ?_ ?_
 ·exact⟨J,J⟩
 ·rintro j a ha W hW size fr h ⟨rfl,rfl⟩
  refine Af (m':=Ig a size) J (Af (Ig.eq_1 _ _) ?_)
  refine Y<|Av (.B (decide ((j:Int)<(slices.length:Int))))<|O<|Ab<|C1 (t:=0) (L:=slices) J fun hlim=>By J (Int.ofNat_lt.2 (Ay ha))<|Ah<|Ab<|An<|Y<|Aw (.cp [.sl 1 (List.map (rI .u8) a)] 0) J (As (Cu Am0 Dz J ha))<|Z 2 [] [(5,.sl 1 (List.map (rI .u8) a))]<|O<|Y<|Z 2 [] [(16,.sl 1 (List.map (rI .u8) a)),(15,.I size)]<|Br a<|Z 2 [] [(3,.I (wi (size+(a.length:Int))))]<|O ?_
  refine Y<|Z 2 [] [(20,.B (decide ((wi (size+(a.length:Int)))<0)))]<|O<|Dk J (fun hc=>?_) (fun hc=>?_)
  ·refine Ai<|Av (.iface 9 (.str [108,101,110,32,111,117,116,32,111,102,32,114,97,110,103,101]))<|Xq (v:=⟨9,.str [108,101,110,32,111,117,116,32,111,102,32,114,97,110,103,101]⟩) J J (Aad func113 hI)
  refine Ah<|Ax<|Ai<|Z 2 [] [(11,.I (wi ((j:Int)+1)))]<|O<|A2 (Hg (hW (wi (size+(a.length:Int))) _ _ ⟨J,J⟩)) (.r4 (.o (ic ha hlim)))
 rintro size fr h ⟨rfl,rfl⟩
 refine Y<|Av (.B (decide ((slices.length:Int)<(slices.length:Int))))<|O<|Ab<|B0 J (Int.lt_irrefl _)<|Bg J<|Y<|Al (.I size)<|Do [0] hI J J (Ac9 size _ (ix ids 0) (by exact hI.sub' J J)) J J J J J J (fun v _=>Aad func113 hI) ?_
 rintro newslice _ _ _ ⟨v,g,vH,rfl,rfl⟩
 refine Hb [0] hI J J J ?_
 refine Ed<|Ac v<|O<|Ao ?_
 refine Ab<|Y<|Al (.sl 1 (List.map (rL 1 (rI .u8)) slices))<|Br slices<|Al (.I 0)<|O<|An<|Ca [6,25,26,27] ?_
 refine Dj (P:=Tryz.prog) slices (fun _ a1=>fun newslice1=>If a1 newslice1) (((fun newslice1=>.ok newslice1)):(List Int)→R (List Int)) (fun j1=>fun newslice1=>fun fr h => ∃ (v1:AV),∃ (g1:Nat),Bh v1 (ix ids 0) g1 newslice1.length∧fr=Ad [(6,v1),(25,.sl 1 (List.map (rL 1 (rI .u8)) slices)),(26,.I (slices.length:Int)),(27,.I j1)]∧h=hp h0 ids [A9 v1 g1 1 (List.map (rI .u8) newslice1)]) newslice ?_ ?_ ?_
 ·exact⟨v,g,vH,J,J⟩
 ·rintro j1 a1 ha1 W hW1 newslice1 fr h ⟨v1,g1,vH1,rfl,rfl⟩
  refine Af (m':=If a1 newslice1) J (Af (If.eq_1 _ _) ?_)
  refine Y<|Av (.B (decide ((j1:Int)<(slices.length:Int))))<|O<|Ab<|C1 (t:=25) (L:=slices) J fun hlim1=>By J (Int.ofNat_lt.2 (Ay ha1))<|Ah<|Ab<|An<|Y<|Aw (.cp [.sl 1 (List.map (rI .u8) a1)] 0) J (As (Cu Am0 Dz J ha1))<|Z 2 [] [(8,.sl 1 (List.map (rI .u8) a1))]<|O<|Ai<|Z 2 [] [(32,.sl 1 (List.map (rI .u8) a1)),(31,v1)]<|Cb fun hl=>Ex (e:=(rI .u8)) (L:=newslice1) (L2:=a1) (v:=v1) (g:=g1) (st:=1) (j:=0) hI J J J J vH1 J (E2 J) Dz Dz J G2 J J J hl fun v2 g2 vH2=>Ac v2<|O ?_
  refine Ao ?_
  refine Ax<|Ai<|Z 2 [] [(27,.I (wi ((j1:Int)+1)))]<|O<|A2 (Hg (hW1 (newslice1++a1) _ _ ⟨v2,g2,vH2,J,J⟩)) (.r2 (.r (.cons (Jt (Ay ha1) hlim1) .nil)))
 rintro newslice1 fr h ⟨v1,g1,vH1,rfl,rfl⟩
 refine Y<|Av (.B (decide ((slices.length:Int)<(slices.length:Int))))<|O<|Ab<|B0 J (Int.lt_irrefl _)<|Bg J<|Y<|Z 2 [] [(2,v1)]<|O<|Mz (a:=newslice1) (v:=v1) (g:=g1) func113 hI J J vH1 J
theorem Vp (slices:(List (List Int))):CP Tryz.prog 113 [(.sl 1 (List.map (rL 1 (rI .u8)) slices))] (F6 slices) (fun(x:List Int)=>(AV.sl 1 (List.map (rI .u8) x))):=(Ab7 slices).cp (fun x=>Bv x)
theorem R8 (tag b):CP Tryz.prog 81 [.str tag,.sl 1 (List.map (rI .u8) b)] (Hn tag b) (fun x=>(AV.agg (rU x))):=by
 refine ci 14 2 func81 (Hn.eq_1 _ _) fun h0 ids hI hF=>Y<|F2 (j:=0) (row:=(rU (Bw 32 0))) hI J J J J Bp (J2 (n:=32) (e:=(rI .u8)) (E:=(fun x:Int=>(AV.int .u8 x))) (fun _=>J) _).symm ((Db (fun x=>Bv x) J) _) fun g=>O<|Ao ?_
 refine Y<|Al (.str tag)<|Cb fun hl=>Az0 J ti9 Dz G2 J J hl<|oc ((Aet (Nl tag)) _) fun r _=>F2 (j:=1) (row:=(rU (Bw 32 0))) hI J J J J Bp (J2 (n:=32) (e:=(rI .u8)) (E:=(fun x:Int=>(AV.int .u8 x))) (fun _=>J) _).symm ((Db (fun x=>Bv x) J) _) fun g1=>B5 (E3 (v:=(.A (rU r))) hI J J J Bp J J J (((Db (fun x=>Bv x) J) _).1) J)<|O<|Ao ?_
 refine Y<|Av1 [Aj g 32 [rU (Bw 32 0)],none] [(1,.sl 1 (List.map (rI .u8) b)),(4,.q ids 0 g),(5,.cp (rU r) 0)] hI J (.keep (.drop .nil)) (.s (.s (.cons (.ptrL (hI.at J J) (hI.at J J) ((Db (fun x=>Bv x) J) _).1 (Rl _)) .nil)))<|Aw (.sl 1 (List.map (rI .u8) r.toList)) J (Cg (Ag2 (E:=(fun x:Int=>(AV.int .u8 x))) (fun _=>J) (fun _=>J) Bp G2 J)) ?_
 refine Al (.sl 1 (List.map (rI .u8) b))<|Fi (e:=(rL 1 (rI .u8))) (L:=[r.toList,b]) (st:=1) (rows:=[[.sl 1 (List.map (rI .u8) r.toList)],[.sl 1 (List.map (rI .u8) b)]]) J Am0 Dz J J J J J (.cons (RowSim.refl _) (.cons (RowSim.refl _) .nil)) (fun x=>Alt x) J J<|oc ((Vp [r.toList,b]) _) fun r1 _=>oc ((Aet r1) _) fun r2 _=>B5 (E3 (v:=(.A (rU r2))) hI J J J Bp J J J (((Db (fun x=>Bv x) J) _).1) J)<|O<|Ao ?_
 exact B2 func81 hI (Bi (A3 hI J J J Bp J) Bx) (.same _)
theorem Yk (salt l):CP Tryz.prog 61 [.A (rU salt),.K l] (Gy salt l) (fun x=>(AV.agg (rU x))):=by
 refine ci 34 5 func61 (Gy.eq_1 _ _) fun h0 ids hI hF=>Y<|B3 0 (.A (rU salt)) fun g=>F2 (j:=1) (row:=(rU (Bw 32 0))) hI J J J J Bp (J2 (n:=32) (e:=(rI .u8)) (E:=(fun x:Int=>(AV.int .u8 x))) (fun _=>J) _).symm ((Db (fun x=>Bv x) J) _) fun g1=>O<|Ao ?_
 refine Y<|Av (.A [.I 3,.I 0,.str [],.emp])<|Cp 2 P0 fun g2=>Bo (.A [.I 3,.I 0,.str [],.emp]) ?_
 refine O<|Ao ?_
 refine Ab<|Y<|Al (.K l)<|Br l<|Al (.I 0)<|O<|An<|Ca [2,4,5,11,12,13] ?_
 refine Dj (P:=Tryz.prog) l (fun _ a=>fun l1=>G7 a l1) (((fun l1=>(Mq ({ Kind:=3,N:=0,S:=[],L:=l1 }:Value)).bind fun r=>if r.1.length≠0∧(32+r.1.length) * 1≤Bz then(Hn [99,111,115,116] (salt.toList++r.1)).bind fun r1=>.ok r1 else .bad)):(List Value)→R (Vector Int 32)) (fun j=>fun l1=>fun fr h => ∃ (v:AV),∃ (g3:Nat),Bh v (ix ids 3) g3 l1.length∧fr=Ad [(2,.q ids 0 g),(4,.q ids 1 g1),(5,.q ids 2 g2),(11,.K l),(12,.I (l.length:Int)),(13,.I j)]∧h=hp h0 ids [Aj g 32 [rU salt],Aj g1 32 [rU (Bw 32 0)],Aj g2 4 [[.I 3,.I 0,.str [],v]],A9 v g3 4 (List.map rValueA l1),none]) [] ?_ ?_ ?_
 ·exact⟨.emp,0,.nil,J,J⟩
 ·rintro j a ha W hW l1 fr h ⟨v,g3,vH,rfl,rfl⟩
  refine Af (m':=G7 a l1) J (Af (G7.eq_1 _ _) ?_)
  refine Y<|Av (.B (decide ((j:Int)<(l.length:Int))))<|O<|Ab<|C1 (t:=11) (L:=l) J fun hlim=>By J (Int.ofNat_lt.2 (Ay ha))<|Ah<|Ab<|An<|Y<|Aw (.cp [.I a] 0) J (As (Cu A8 Bk J ha))<|Z 2 [] [(7,.I a)]<|O<|Ai<|Z 4 [2] [(20,.A [.I 1,.I a,.str [],.emp]),(18,v)]<|Fi (e:=rValueA) (L:=[({ Kind:=1,N:=a,S:=[],L:=[] }:Value)]) (st:=4) (rows:=[[.I 1,.I a,.str [],.emp]]) J K8 P0 J J J J J (.cons (Awr (.s (.s (.s (.cons (.emp _) .nil))))) .nil) (fun x=>Anw x) J J<|Cb fun hl=>Ex (e:=rValueA) (L:=l1) (L2:=[({ Kind:=1,N:=a,S:=[],L:=[] }:Value)]) (v:=v) (g:=g3) (st:=4) (j:=3) hI J J J J vH J (E2 J) K8 K8 J P0 J J J hl fun v1 g4 vH1=>Av (.ptr (ix ids 2) g2 0 3) ?_
  refine B5 (Aaa vH1 hI J J J J K8 J J J)<|O<|Ao ?_
  refine Ax<|Ai<|Z 2 [] [(13,.I (wi ((j:Int)+1)))]<|O<|A2 (Hg (hW (l1++[({ Kind:=1,N:=a,S:=[],L:=[] }:Value)]) _ _ ⟨v1,g4,vH1,J,J⟩)) (.r4 (.r (.o (ic ha hlim))))
 rintro l1 fr h ⟨v,g3,vH,rfl,rfl⟩
 refine Y<|Av (.B (decide ((l.length:Int)<(l.length:Int))))<|O<|Ab<|B0 J (Int.lt_irrefl _)<|Bg J<|Y<|Z 1 [2] [(26,.A [.I 3,.I 0,.str [],v])]<|Aft (h2:=hp h0 ids [Aj g 32 [rU salt],Aj g1 32 [rU (Bw 32 0)],none,none,none]) [(2,.q ids 0 g),(4,.q ids 1 g1),(26,.A (Ce ({ Kind:=3,N:=0,S:=[],L:=l1 }:Value)))] (Drops.sub (.keep (.keep (.drop (.drop (.keep .nil))))) hI.len) (.s (.s (.cons (.aggL (.s (.s (.s (.cons (G3 vH (hI.at J J) (hI.at J J) (fun x=>Anw x)) .nil))))) .nil))) J J<|oc ((Akh ({ Kind:=3,N:=0,S:=[],L:=l1 }:Value)) _) fun r _=>Z 5 [] [(8,.sl 1 (List.map (rI .u8) r.1))]<|O<|Ao ?_
 refine Y<|Aw (.refc (ix ids 0) g 0 0 32 32) J (Cg (Ali (a:=0) (b:=32) hI J J Bp G2 J J J)) ?_
 refine Al (.sl 1 (List.map (rI .u8) r.1))<|Cb fun hl1=>Ar5 (e:=(rI .u8)) (E1:=(fun x:Int=>(AV.int .u8 x))) (v:=salt) (L2:=r.1) (j2:=4) (fun _=>J) hI J J J J J J (E2 J) Dz Dz J G2 J J hl1 fun v2 g5 vH2=>Aft (h2:=hp h0 ids [Aj g 32 [rU salt],Aj g1 32 [rU (Bw 32 0)],none,none,none]) [(4,.q ids 1 g1),(32,.sl 1 (List.map (rI .u8) (salt.toList++r.1)))] (Drops.sub (.keep (.keep (.keep (.keep (.drop .nil))))) hI.len) (.s (.cons (G3 vH2 (hI.at J J) (hI.at J J) (fun x=>Bv x)) .nil)) J J<|oc ((R8 [99,111,115,116] (salt.toList++r.1)) _) fun r1 _=>B5 (E3 (v:=(.A (rU r1))) hI J J J Bp J J J (((Db (fun x=>Bv x) J) _).1) J)<|O<|Ao ?_
 exact B2 func61 hI (Bi (A3 hI J J J Bp J) Bx) (.same _)
theorem Agl (a):CP Tryz.prog 137 [.int .u64 a] (Wk a) (.int .i64):=by
 refine ci 25 0 func137 (Wk.eq_1 _) fun h0 ids hI hF=>Y<|Ac (.I 0)<|O<|Ab<|Y<|Z 2 [] [(4,.B (decide (a≥4294967296)))]<|O<|C5 (Da fun x n=>Pk x n) (Da fun x n=>fun fr h=>fr=Ad [(0,.int .u64 x),(2,.I n)]∧h=hp h0 ids []) ?_ fun hJ1=>?_
 ·rintro⟨x,n⟩ fr h ⟨rfl,rfl⟩
  refine Af (Pk.eq_1 _ _)<|Ab<|Y<|Z 2 [] [(8,.B (decide (x≥65536)))]<|O<|C5 (Da fun x1 n1=>Qa x1 n1) (Da fun x1 n1=>fun fr h=>fr=Ad [(0,.int .u64 x1),(2,.I n1)]∧h=hp h0 ids []) ?_ fun hJ=>?_
  ·rintro⟨x1,n1⟩ fr h ⟨rfl,rfl⟩
   refine Af (Qa.eq_1 _ _)<|Ab<|Y<|Z 2 [] [(14,.B (decide (x1≥256)))]<|O<|Dk J (fun hc2=>?_) (fun hc2=>?_)
   ·refine Y<|Al (.int .u64 x1)<|Aw (.int .u64 (Int.fdiv x1 256)) J (Bl J J (Kc (by decide) (by decide)))<|Ac (.int .u64 (Int.fdiv x1 256))<|O<|Ai<|Z 3 [] [(2,.I (wi (n1+8)))]<|O<|Y<|Z 2 [] [(20,.int .u64 (Int.fdiv x1 256)),(19,.I (wi (n1+8)))]<|Av (.int .u8 (IntKind.wrap .u8 (Int.fdiv x1 256)))<|Jn fun a1 hz hx1=>Aw (.int .u8 (a1.toNat:Int)) J (Am6 (As8 ti9 hz hx1))<|Av (.I (wi (a1.toNat:Int)))<|Z 2 [] [(2,.I (wi ((wi (n1+8))+(wi (a1.toNat:Int)))))]<|O<|rt
   refine Ah<|Y<|Z 2 [] [(20,.int .u64 x1),(19,.I n1)]<|Av (.int .u8 (IntKind.wrap .u8 x1))<|Jn fun a2 hz1 hx2=>Aw (.int .u8 (a2.toNat:Int)) J (Am6 (As8 ti9 hz1 hx2))<|Av (.I (wi (a2.toNat:Int)))<|Z 2 [] [(2,.I (wi (n1+(wi (a2.toNat:Int)))))]<|O<|rt
  refine Dk J (fun hc1=>?_) (fun hc1=>?_)
  ·refine Y<|Al (.int .u64 x)<|Aw (.int .u64 (Int.fdiv x 65536)) J (Bl J J (Kc (by decide) (by decide)))<|Ac (.int .u64 (Int.fdiv x 65536))<|O<|Ai<|Z 3 [] [(2,.I (wi (n+16)))]<|O<|A2 (hJ ((Int.fdiv x 65536),wi (n+16)) _ _ ⟨J,J⟩)
  refine Ah<|A2 (hJ (x,n) _ _ ⟨J,J⟩)
 refine Dk J (fun hc=>?_) (fun hc=>?_)
 ·refine Y<|Al (.int .u64 a)<|Aw (.int .u64 (Int.fdiv a 4294967296)) J (Bl J J (Kc (by decide) (by decide)))<|Ac (.int .u64 (Int.fdiv a 4294967296))<|O<|Ai<|Ac (.I 32)<|O<|A2 (hJ1 ((Int.fdiv a 4294967296),32) _ _ ⟨J,J⟩)
 refine Ah<|A2 (hJ1 (a,0) _ _ ⟨J,J⟩)
theorem Ai1 (a):CP Tryz.prog 114 [.int .u64 a] (Y7 a) (.int .i64):=by
 refine ci 8 0 func114 (Y7.eq_1 _) fun h0 ids hI hF=>Y<|Ac (.I 0)<|O<|Ab<|N4 false J<|Ah<|Y<|Al (.int .u64 a)<|oc ((Agl a) _) fun r _=>Ac (.I r)<|O<|rt
theorem Xp (n):CP Tryz.prog 83 [.int .i64 n] (Ga n) (.int .i64):=by
 refine ci 9 0 func83 (Ga.eq_1 _) fun h0 ids hI hF=>Y<|Ac (.I 0)<|O<|Y<|Z 2 [] [(4,.I (wi (n - 1)))]<|Av (.int .u64 (IntKind.wrap .u64 (wi (n - 1))))<|oc ((Ai1 (IntKind.wrap .u64 (wi (n - 1)))) _) fun r _=>Av (.I (wi (r - 1)))<|Cb fun hz=>Aw (.I (S6 .i64 1 (wi (r - 1)))) J (Bl J J (Adr hz))<|Ac (.I (S6 .i64 1 (wi (r - 1))))<|O<|rt
theorem Add (d):CP Tryz.prog 82 [.A (rU d)] (Mi d) (fun x=>(AV.agg (rU x))):=by
 refine ci 5 2 func82 (Mi.eq_1 _) fun h0 ids hI hF=>Y<|B3 0 (.A (rU d)) fun g=>F2 (j:=1) (row:=(rU (Bw 32 0))) hI J J J J Bp (J2 (n:=32) (e:=(rI .u8)) (E:=(fun x:Int=>(AV.int .u8 x))) (fun _=>J) _).symm ((Db (fun x=>Bv x) J) _) fun g1=>O<|Ao ?_
 refine Y<|Av1 [none,Aj g1 32 [rU (Bw 32 0)]] [(1,.cp (rU d) 0),(2,.q ids 1 g1)] hI J (.drop (.keep .nil)) (.cons (.ptrL (hI.at J J) (hI.at J J) ((Db (fun x=>Bv x) J) _).1 (Rl _)) .s1)<|Aw (.sl 1 (List.map (rI .u8) d.toList)) J (Cg (Ag2 (E:=(fun x:Int=>(AV.int .u8 x))) (fun _=>J) (fun _=>J) Bp G2 J)) ?_
 refine oc ((R8 [108,101,97,102] d.toList) _) fun r _=>B5 (E3 (v:=(.A (rU r))) hI J J J Bp J J J (((Db (fun x=>Bv x) J) _).1) J)<|O<|Ao ?_
 exact B2 func82 hI (Bi (A3 hI J J J Bp J) Bx) (.same _)
theorem Xn (a b):CP Tryz.prog 84 [.A (rU a),.A (rU b)] (Kk a b) (fun x=>(AV.agg (rU x))):=by
 refine ci 10 3 func84 (Kk.eq_1 _ _) fun h0 ids hI hF=>Y<|B3 0 (.A (rU a)) fun g=>B3 1 (.A (rU b)) fun g1=>F2 (j:=2) (row:=(rU (Bw 32 0))) hI J J J J Bp (J2 (n:=32) (e:=(rI .u8)) (E:=(fun x:Int=>(AV.int .u8 x))) (fun _=>J) _).symm ((Db (fun x=>Bv x) J) _) fun g2=>O<|Ao ?_
 refine Ab<|Z0 [none,Aj g1 32 [rU b],Aj g2 32 [rU (Bw 32 0)]] [(2,.cp (rU a) 0),(3,.q ids 1 g1),(4,.q ids 2 g2)] hI J (.drop (.keep (.keep .nil))) (.cons (.ptrL (hI.at J J) (hI.at J J) ((Db (fun x=>Bv x) J) _).1 (Rl _)) .s2)<|Z0 [none,none,Aj g2 32 [rU (Bw 32 0)]] [(2,.cp (rU a) 0),(3,.cp (rU b) 0),(4,.q ids 2 g2)] hI J (.keep (.drop (.keep .nil))) (.s (.cons (.ptrL (hI.at J J) (hI.at J J) ((Db (fun x=>Bv x) J) _).1 (Rl _)) .s1))<|Bt [0,0,3,7,15,31] [pR 0,pR 1,pE 2,pE 3,pE 4,pE 5] Dc<|A0 (.sl 1 (List.map (rI .u8) a.toList)) J J (Cg (Ag2 (E:=(fun x:Int=>(AV.int .u8 x))) (fun _=>J) (fun _=>J) Bp G2 J)) ?_
 refine A0 (.sl 1 (List.map (rI .u8) b.toList)) J J (Cg (Ag2 (E:=(fun x:Int=>(AV.int .u8 x))) (fun _=>J) (fun _=>J) Bp G2 J)) ?_
 refine Gn J J (fun _ _=>J) (fun K hK=>L6 (e:=(rL 1 (rI .u8))) (L:=[a.toList,b.toList]) (st:=1) (rows:=[[.sl 1 (List.map (rI .u8) a.toList)],[.sl 1 (List.map (rI .u8) b.toList)]]) Am0 Dz J J J J J (.cons (RowSim.refl _) (.cons (RowSim.refl _) .nil)) (fun x=>Alt x) J J (hK _ _ Cq ?_))
 clear hK K
 refine Lf ((Vp [a.toList,b.toList]) _) fun r _=>?_
 refine Lf ((R8 [110,111,100,101] r) _) fun r1 _=>?_
 refine Ic J (fun _ _=>J) (fun K hK=>Ea (E3 (v:=(.A (rU r1))) hI J J J Bp J J J (((Db (fun x=>Bv x) J) _).1) J) (hK _ _ Cq ?_))
 clear hK K
 refine A7<|Ao ?_
 exact B2 func84 hI (Bi (A3 hI J J J Bp J) Bx) (.same _)
theorem Abr (d vat n p):CP Tryz.prog 62 [.A (rU d),.int .i64 vat,.int .i64 n,.M p] (Mp d vat n p) (fun p=>AV.tup [.A (rU p.1),.int .i64 p.2]):=by
 refine ci 81 4 func62 (Mp.eq_1 _ _ _ _) fun h0 ids hI hF=>Y<|B3 0 (.A (rU d)) fun g=>F2 (j:=1) (row:=(rU (Bw 32 0))) hI J J J J Bp (J2 (n:=32) (e:=(rI .u8)) (E:=(fun x:Int=>(AV.int .u8 x))) (fun _=>J) _).symm ((Db (fun x=>Bv x) J) _) fun g1=>Ac (.I 0)<|O<|Ao ?_
 refine Ab<|Y<|Z 3 [] [(16,.B (decide (n<1)))]<|B8 3 16 19 [1,2,3,4,8] (.B ((decide (n<1))||(decide (n > 1099511627776)))) J ?_ (fun hb1 hJ=>?_) (fun hb1 hJ=>?_)
 ·refine Al (.B ((decide (n<1))||(decide (n > 1099511627776))))<|B8 3 20 23 [1,2,3,4,8] (.B (((decide (n<1))||(decide (n > 1099511627776)))||(decide (vat<0)))) J ?_ (fun hb3 hJ1=>?_) (fun hb3 hJ1=>?_)
  ·refine Al (.B (((decide (n<1))||(decide (n > 1099511627776)))||(decide (vat<0))))<|B8 4 24 28 [1,2,3,4,8] (.B ((((decide (n<1))||(decide (n > 1099511627776)))||(decide (vat<0)))||(decide (vat≥n)))) J ?_ (fun hb5 hJ2=>?_) (fun hb5 hJ2=>?_)
   ·refine O<|A6 J (fun hc=>?_) (fun hc=>?_)
    ·refine Y<|Z 1 [1] [(29,.A (rU (Bw 32 0)))]<|B5 (E3 (v:=(.A (rU (Bw 32 0)))) hI J J J Bp J J J (((Db (fun x=>Bv x) J) _).1) J)<|Ac (.I 1)<|O<|B2 func62 hI (Bi (A3 hI J J J Bp J) (Cs Bx)) (.tupL .s2)
    refine Ah<|Y<|Ac .emp<|O<|Ab<|C5 (fun first1=>Kp d p first1) (fun first1=>fun fr h => ∃ (v2:AV),∃ (g4:Nat),Bh v2 (ix ids 2) g4 first1.length∧fr=Ad [(3,.M p),(4,.q ids 0 g),(8,.q ids 1 g1),(10,v2)]∧h=hp h0 ids [Aj g 32 [rU d],Aj g1 32 [rU (Bw 32 0)],A9 v2 g4 1 (List.map rB first1),none]) ?_ fun hJ3=>?_
    ·rintro first1 fr h ⟨v2,g4,vH2,rfl,rfl⟩
     refine Af (Kp.eq_1 _ _ _)<|Ab<|Y<|Al (.M p)<|Br p<|Al v2<|Aw (.I (first1.length:Int)) J (Cf (Bh.len vH2 Ag1))<|Av (.B ((p.length:Int) != (first1.length:Int)))<|O<|A6 J (fun hc3=>?_) (fun hc3=>?_)
     ·refine Y<|Z 1 [1] [(55,.A (rU (Bw 32 0)))]<|B5 (E3 (v:=(.A (rU (Bw 32 0)))) hI J J J Bp J J J (((Db (fun x=>Bv x) J) _).1) J)<|Ac (.I 1)<|O<|B2 func62 hI (Bi (A3 hI J J J Bp J) (Cs Bx)) (.tupL .s2)
     refine Ah<|Y<|Z 1 [0] [(56,.A (rU d))]<|oc ((Add d) _) fun r _=>B5 (E3 (v:=(.A (rU r))) hI J J J Bp J J J (((Db (fun x=>Bv x) J) _).1) J)<|O<|Ao ?_
     refine Ab<|Y<|Al (.M p)<|Br p<|Al (.I 0)<|O<|An<|B9 1<|Ca [8,10,58,59,60] ?_
     refine Dj (P:=Tryz.prog) p (fun j a=>Da fun o first2=>G0 j a o first2) (((Da fun o first2=>.ok (o,0))):((Vector Int 32)×(List Bool))→R ((Vector Int 32)×Int)) (fun j=>Da fun o first2=>fun fr h=>Bh v2 (ix ids 2) g4 first2.length∧fr=Ad [(8,.q ids 1 g1),(10,v2),(58,.M p),(59,.I (p.length:Int)),(60,.I j)]∧h=hp h0 ids [none,Aj g1 32 [rU o],A9 v2 g4 1 (List.map rB first2),none]) (r,first1) ?_ ?_ ?_
     ·exact⟨vH2,J,J⟩
     ·rintro j a ha W hW1 ⟨o,first2⟩ fr h ⟨vH3,rfl,rfl⟩
      refine Af (m':=G0 j a o first2) J (Af (G0.eq_1 _ _ _ _) ?_)
      refine Y<|Av (.B (decide ((j:Int)<(p.length:Int))))<|O<|Ab<|C1 (t:=58) (L:=p) J fun hlim=>By J (Int.ofNat_lt.2 (Ay ha))<|Ah<|Ab<|An<|Y<|Al (.I j)<|Aw (.cp (rU a) 0) J (As (Cu C3 Bp J ha))<|Av (.A (rU a))<|F2 (j:=3) (row:=(rU (Bw 32 0))) hI J J J J Bp (J2 (n:=32) (e:=(rI .u8)) (E:=(fun x:Int=>(AV.int .u8 x))) (fun _=>J) _).symm ((Db (fun x=>Bv x) J) _) fun g5=>Ac (.I j)<|B5 (E3 (v:=(.A (rU a))) hI J J J Bp J J J (((Db (fun x=>Bv x) J) _).1) J)<|O<|Ao ?_
      refine Y<|Z 2 [] [(66,v2),(65,v2)]<|Aw (.I (first2.length:Int)) J (Cf (Bh.len vH3 Ag1))<|Z 3 [] [(70,.I (wi ((wi ((first2.length:Int) - 1)) - (j:Int))))]<|Jn fun a1 hz hx1=>Aw (.ptr (ix ids 2) g4 (Int.toNat (wi ((wi ((first2.length:Int) - 1)) - (j:Int)))) 0) J (As (N5 hI J vH3 J Ag1 Zd J hz hx1))<|Aw (.B a1) J (Ba (W6 hI J vH3 J hx1 Zd J))<|O<|A6 J (fun hc4=>?_) (fun hc4=>?_)
      ·refine Ai<|Z 2 [1,3] [(74,.A (rU a)),(73,.A (rU o))]<|oc ((Xn o a) _) fun r1 _=>B5 (E3 (v:=(.A (rU r1))) hI J J J Bp J J J (((Db (fun x=>Bv x) J) _).1) J)<|O<|Ao ?_
       refine Ax<|Ai<|Z 2 [] [(60,.I (wi ((j:Int)+1)))]<|O<|B9 8<|A2 (Hg (hW1 (r1,first2) _ _ ⟨vH3,J,J⟩)) (.r4 (.o (ic ha hlim)))
      refine Ai<|Z 2 [3,1] [(77,.A (rU o)),(76,.A (rU a))]<|oc ((Xn a o) _) fun r2 _=>B5 (E3 (v:=(.A (rU r2))) hI J J J Bp J J J (((Db (fun x=>Bv x) J) _).1) J)<|O<|Ao ?_
      refine Ax<|Ai<|Z 2 [] [(60,.I (wi ((j:Int)+1)))]<|O<|B9 8<|A2 (Hg (hW1 (r2,first2) _ _ ⟨vH3,J,J⟩)) (.r4 (.o (ic ha hlim)))
     rintro⟨o,first2⟩ fr h ⟨vH3,rfl,rfl⟩
     refine Af (Asi _ _ _)<|Y<|Av (.B (decide ((p.length:Int)<(p.length:Int))))<|O<|Ab<|B0 J (Int.lt_irrefl _)<|Bg J<|Y<|Z 1 [1] [(80,.A (rU o))]<|B5 (E3 (v:=(.A (rU o))) hI J J J Bp J J J (((Db (fun x=>Bv x) J) _).1) J)<|Ac (.I 0)<|O<|B2 func62 hI (Bi (A3 hI J J J Bp J) (Cs Bx)) (.tupL .s2)
    refine An<|Ca [1,2,3,4,8,10] ?_
    refine Jb (P:=Tryz.prog) (Tg fun vat1 n1 first=>F5 vat1 n1 first) ((fun first1=>Kp d p first1):(List Bool)→R ((Vector Int 32)×Int)) (Tg fun vat1 n1 first=>fun fr h => ∃ (v:AV),∃ (g2:Nat),Bh v (ix ids 2) g2 first.length∧fr=Ad [(1,.I vat1),(2,.I n1),(3,.M p),(4,.q ids 0 g),(8,.q ids 1 g1),(10,v)]∧h=hp h0 ids [Aj g 32 [rU d],Aj g1 32 [rU (Bw 32 0)],A9 v g2 1 (List.map rB first),none]) (vat,n,[]) ?_ ?_
    ·exact⟨.emp,0,.nil,J,J⟩
    rintro vW hW ⟨vat1,n1,first⟩ fr h ⟨v,g2,vH,rfl,rfl⟩
    refine Af (m':=F5 vat1 n1 first) J (Af (F5.eq_1 _ _ _) ?_)
    refine Ab<|Y<|Z 2 [] [(31,.B (decide (n1 > 1)))]<|O<|Dk J (fun hc1=>?_) (fun hc1=>?_)
    ·refine Ah<|An<|Y<|Al (.I n1)<|oc ((Xp n1) _) fun k _=>Ac (.I k)<|O<|Y<|Z 4 [] [(37,.B (decide (vat1<k))),(34,v)]<|Fi (e:=rB) (L:=[decide (vat1<k)]) (st:=1) (rows:=[[.B (decide (vat1<k))]]) J Ag1 Zd J J J J J (.cons (RowSim.refl _) .nil) (fun x=>Avt x) J J<|Cb fun hl=>Ex (e:=rB) (L:=first) (L2:=[decide (vat1<k)]) (v:=v) (g:=g2) (st:=1) (j:=2) hI J J J J vH J (E2 J) Ag1 Ag1 J Zd J J J hl fun v1 g3 vH1=>Ac v1<|O<|Ao ?_
     refine Y<|Z 3 [] [(42,.B (decide (vat1<k)))]<|O<|Dk J (fun hc2=>?_) (fun hc2=>?_)
     ·refine Ai<|Z 2 [] [(2,.I k)]<|O<|Ax<|A2 (Gw (hW (vat1,k,first++[decide (vat1<k)]) _ _ ⟨v1,g3,vH1,J,J⟩))
     refine Ai<|Z 8 [] [(2,.I (wi (n1 - k))),(1,.I (wi (vat1 - k)))]<|O<|Ax<|A2 (Gw (hW ((wi (vat1 - k)),wi (n1 - k),first++[decide (vat1<k)]) _ _ ⟨v1,g3,vH1,J,J⟩))
    refine Bg J<|H2<|A2 (hJ3 first _ _ ⟨v,g2,vH,J,J⟩)
   ·refine Z 4 [] [(28,.B true)]<|A4 hJ2 (.r4 (.r (.cons (Ev hb5) .nil)))
   refine Z 4 [] [(28,.B (decide (vat≥n)))]<|A4 hJ2 (.r4 (.r (.cons (Eu hb5) .nil)))
  ·refine Z 3 [] [(23,.B true)]<|A4 hJ1 (.r4 (.r (.cons (Ev hb3) .nil)))
  refine Z 3 [] [(23,.B (decide (vat<0)))]<|A4 hJ1 (.r4 (.r (.cons (Eu hb3) .nil)))
 ·refine Z 3 [] [(19,.B true)]<|A4 hJ (.r4 (.r (.cons (Ev hb1) .nil)))
 refine Z 3 [] [(19,.B (decide (n > 1099511627776)))]<|A4 hJ (.r4 (.r (.cons (Eu hb1) .nil)))
theorem Adz (d airline tables slots o):CP Tryz.prog 25 [.A (rU d),.int .i64 airline,.int .i64 tables,.int .i64 slots,.A (At o)] (Jc d airline tables slots o) (.int .i64):=by
 refine ci 125 5 func25 (Jc.eq_1 _ _ _ _ _) fun h0 ids hI hF=>Y<|B3 0 (.A (rU d)) fun g=>B3 1 (.A (At o)) fun g1=>Ac (.I 0)<|O<|Ao ?_
 refine Ab<|Y<|Z 3 [] [(22,.B (decide (tables<1)))]<|B8 3 22 25 [1,2,3,5,9] (.B ((decide (tables<1))||(decide (tables > 8)))) J ?_ (fun hb1 hJ=>?_) (fun hb1 hJ=>?_)
 ·refine Al (.B ((decide (tables<1))||(decide (tables > 8))))<|B8 3 26 29 [1,2,3,5,9] (.B (((decide (tables<1))||(decide (tables > 8)))||(decide (slots<1)))) J ?_ (fun hb3 hJ1=>?_) (fun hb3 hJ1=>?_)
  ·refine Al (.B (((decide (tables<1))||(decide (tables > 8)))||(decide (slots<1))))<|B8 3 30 33 [1,2,3,5,9] (.B ((((decide (tables<1))||(decide (tables > 8)))||(decide (slots<1)))||(decide (slots > 8)))) J ?_ (fun hb5 hJ2=>?_) (fun hb5 hJ2=>?_)
   ·refine Al (.B ((((decide (tables<1))||(decide (tables > 8)))||(decide (slots<1)))||(decide (slots > 8))))<|B8 5 34 39 [2,3,5,9] (.B (((((decide (tables<1))||(decide (tables > 8)))||(decide (slots<1)))||(decide (slots > 8)))||(o.Airline != airline))) J ?_ (fun hb7 hJ3=>?_) (fun hb7 hJ3=>?_)
    ·refine Al (.B (((((decide (tables<1))||(decide (tables > 8)))||(decide (slots<1)))||(decide (slots > 8)))||(o.Airline != airline)))<|I3 7 40 47 [2,3,5,9] .bool J ?_ (fun hb9 hJ4=>?_) (fun hb9 hJ4=>?_)
     ·intro b
      refine Al (.B b)<|B8 4 48 52 [2,3,5,9] (.B (b||(decide (o.Slot<0)))) J ?_ (fun hb11 hJ5=>?_) (fun hb11 hJ5=>?_)
      ·refine Al (.B (b||(decide (o.Slot<0))))<|B8 5 53 58 [2,3,5,9] (.B ((b||(decide (o.Slot<0)))||(decide (o.Slot≥slots)))) J ?_ (fun hb13 hJ6=>?_) (fun hb13 hJ6=>?_)
       ·refine Al (.B ((b||(decide (o.Slot<0)))||(decide (o.Slot≥slots))))<|I3 5 59 64 [2,3,5,9] .bool J ?_ (fun hb15 hJ7=>?_) (fun hb15 hJ7=>?_)
        ·intro b1
         refine O<|A6 J (fun hc=>?_) (fun hc=>?_)
         ·refine Y<|Ac (.I 360)<|O<|rt
         refine Ah<|Y<|Z 10 [1,1,1,1,1] [(74,.I o.Cost),(72,.I o.Slot),(70,.I o.Flight),(68,.I o.Airline),(66,.A (rU o.Salt))]<|Fi (e:=rJ) (L:=[o.Airline,o.Flight,o.Slot,o.Cost]) (st:=1) (rows:=[[.I o.Airline],[.I o.Flight],[.I o.Slot],[.I o.Cost]]) J A8 Bk J J J J J (.cons (RowSim.refl _) (.cons (RowSim.refl _) (.cons (RowSim.refl _) (.cons (RowSim.refl _) .nil)))) (fun x=>Bv x) J J<|oc ((Yk o.Salt [o.Airline,o.Flight,o.Slot,o.Cost]) _) fun r2 _=>F2 (j:=2) (row:=(rU (Bw 32 0))) hI J J J J Bp (J2 (n:=32) (e:=(rI .u8)) (E:=(fun x:Int=>(AV.int .u8 x))) (fun _=>J) _).symm ((Db (fun x=>Bv x) J) _) fun g2=>B5 (E3 (v:=(.A (rU r2))) hI J J J Bp J J J (((Db (fun x=>Bv x) J) _).1) J)<|O<|Ao ?_
         refine Ab<|Y<|Z 2 [1] [(78,.M o.Path)]<|Br o.Path<|Z 2 [] [(81,.I 0),(80,.I (wi ((o.Path.length:Int)+1)))]<|O<|C5 (π:=Unit) (fun _=>K7) (fun _=>fun fr h=>fr=Ad []∧h=hp h0 ids [none,none,none,none,none]) ?_ fun hJ10=>?_
         ·rintro _ fr h ⟨rfl,rfl⟩
          refine Af (K7.eq_1)<|Y<|Ac (.I 360)<|O<|rt
         refine An<|Ca [2,3,5,9,11,80,81] ?_
         refine Jb (P:=Tryz.prog) (fun x=>Hf d tables slots o r2 x) ((alt (fun _=>K7) (fun r=>.ok r)):(Unit ⊕ Int)→R Int) (fun x=>fun fr h=>fr=Ad [(2,.I tables),(3,.I slots),(5,.q ids 0 g),(9,.q ids 1 g1),(11,.q ids 2 g2),(80,.I (wi ((o.Path.length:Int)+1))),(81,.I x)]∧h=hp h0 ids [Aj g 32 [rU d],Aj g1 37 [At o],Aj g2 32 [rU r2],none,none]) 0 ?_ ?_
         ·exact⟨J,J⟩
         rintro vW hW x fr h ⟨rfl,rfl⟩
         refine Af (m':=Hf d tables slots o r2 x) J (Af (Hf.eq_1 _ _ _ _ _ _) ?_)
         refine Y<|Av (.B (decide (x<(wi ((o.Path.length:Int)+1)))))<|O<|Ab<|Dk J (fun hc1=>?_) (fun hc1=>?_)
         ·refine Ah<|Ab<|An<|Y<|Z 2 [] [(12,.I x)]<|O<|Ab<|Bt [0,1,0,0,15,0,32,0,224,31,1023] [pR 0,pR 1,pR 2,pR 3,pR 4,pR 5,pR 6,pR 7,pR 8,pR 9,pR 10] Dc<|Ap [1] [(84,.ptr (ix ids 1) g1 0 36),(85,.M o.Path),(86,.I x),(87,.I x)]<|Fu fun hs=>A0 (slx0 32 (List.map rU (o.Path.take (Int.toNat x)))) J J (Cg (Am8 (e:=rU) (L:=o.Path) C3 Bp J hs))<|Ap [1] [(89,.ptr (ix ids 1) g1 0 36),(90,.M o.Path),(91,.I x)]<|Fu fun hs1=>A0 (.M (o.Path.drop (Int.toNat x))) J J (Cg (Rm C3 Bp J hs1))<|Ap [] [(13,slx0 32 (List.map rU (o.Path.take (Int.toNat x)))),(14,.M (o.Path.drop (Int.toNat x)))]<|A7<|Asq [(2,.I tables),(3,.I slots),(5,.q ids 0 g),(9,.q ids 1 g1),(11,.q ids 2 g2),(12,.I x),(13,.M (o.Path.take (Int.toNat x))),(14,.M (o.Path.drop (Int.toNat x))),(80,.I (wi ((o.Path.length:Int)+1))),(81,.I x),(82,.B (decide (x<(wi ((o.Path.length:Int)+1))))),(84,.ptr (ix ids 1) g1 0 36),(85,.M o.Path),(86,.I x),(87,.I x),(88,.M (o.Path.take (Int.toNat x))),(89,.ptr (ix ids 1) g1 0 36),(90,.M o.Path),(91,.I x),(92,.M (o.Path.drop (Int.toNat x)))] (Hk.refl _) (.s (.s (.s (.s (.s (.s (.cons Alq (.s (.s (.s (.s (.s (.s (.s (.s (.cons Alq (.s (.s .s2)))))))))))))))))) J J<|Y<|Z 5 [2,1] [(98,.M (o.Path.take (Int.toNat x))),(97,.I slots),(96,.I o.Slot),(94,.A (rU r2))] ?_
          refine oc ((Abr r2 o.Slot slots (o.Path.take (Int.toNat x))) _) fun r3 _=>Z 3 [] [(101,.I r3.2),(100,.A (rU r3.1))]<|F2 (j:=3) (row:=(rU (Bw 32 0))) hI J J J J Bp (J2 (n:=32) (e:=(rI .u8)) (E:=(fun x:Int=>(AV.int .u8 x))) (fun _=>J) _).symm ((Db (fun x=>Bv x) J) _) fun g3=>B5 (E3 (v:=(.A (rU r3.1))) hI J J J Bp J J J (((Db (fun x=>Bv x) J) _).1) J)<|Ac (.I r3.2)<|O<|Ao ?_
          refine Ab<|Y<|Z 2 [] [(103,.B (r3.2 != 0))]<|O<|A6 J (fun hc2=>?_) (fun hc2=>?_)
          ·refine Bg J<|Ai<|Z 2 [] [(81,.I (wi (x+1)))]<|O<|B9 8<|A2 (Gw (hW (wi (x+1)) _ _ ⟨J,J⟩))
          refine Ah<|Y<|Z 2 [] [(105,.I 0),(104,.I tables)]<|O<|C5 (π:=Unit) (fun _=>Hd x) (fun _=>fun fr h=>fr=Ad [(2,.I tables),(3,.I slots),(5,.q ids 0 g),(9,.q ids 1 g1),(11,.q ids 2 g2),(80,.I (wi ((o.Path.length:Int)+1))),(81,.I x)]∧h=hp h0 ids [Aj g 32 [rU d],Aj g1 37 [At o],Aj g2 32 [rU r2],none,none]) ?_ fun hJ9=>?_
          ·rintro _ fr h ⟨rfl,rfl⟩
           refine Af (Hd.eq_1 _)<|Ax<|Ai<|Z 2 [] [(81,.I (wi (x+1)))]<|O<|A2 (Gw (hW (wi (x+1)) _ _ ⟨J,J⟩))
          refine An<|Ca [2,3,5,9,11,14,15,80,81,104,105] ?_
          refine Jb (P:=Tryz.prog) (fun x1=>Hi d tables o x r3 x1) ((alt (fun _=>Hd x) (fun r=>.ok (.inr (.inr (r))))):(Unit ⊕ Int)→R (Int ⊕ (Unit ⊕ Int))) (fun x1=>fun fr h=>fr=Ad [(2,.I tables),(3,.I slots),(5,.q ids 0 g),(9,.q ids 1 g1),(11,.q ids 2 g2),(14,.M (o.Path.drop (Int.toNat x))),(15,.q ids 3 g3),(80,.I (wi ((o.Path.length:Int)+1))),(81,.I x),(104,.I tables),(105,.I x1)]∧h=hp h0 ids [Aj g 32 [rU d],Aj g1 37 [At o],Aj g2 32 [rU r2],Aj g3 32 [rU r3.1],none]) 0 ?_ ?_
          ·exact⟨J,J⟩
          rintro vW1 hW1 x1 fr h ⟨rfl,rfl⟩
          refine Af (m':=Hi d tables o x r3 x1) J (Af (Hi.eq_1 _ _ _ _ _ _) ?_)
          refine Y<|Av (.B (decide (x1<tables)))<|O<|Ab<|Dk J (fun hc3=>?_) (fun hc3=>?_)
          ·refine Ah<|Ab<|An<|Y<|Z 2 [] [(17,.I x1)]<|O<|Y<|Z 4 [3] [(112,.M (o.Path.drop (Int.toNat x))),(111,.I tables),(110,.I x1),(109,.A (rU r3.1))]<|oc ((Abr r3.1 x1 tables (o.Path.drop (Int.toNat x))) _) fun r4 _=>Z 3 [] [(115,.I r4.2),(114,.A (rU r4.1))]<|F2 (j:=4) (row:=(rU (Bw 32 0))) hI J J J J Bp (J2 (n:=32) (e:=(rI .u8)) (E:=(fun x:Int=>(AV.int .u8 x))) (fun _=>J) _).symm ((Db (fun x=>Bv x) J) _) fun g4=>B5 (E3 (v:=(.A (rU r4.1))) hI J J J Bp J J J (((Db (fun x=>Bv x) J) _).1) J)<|Ac (.I r4.2)<|O<|Ao ?_
           refine Y<|Z 3 [] [(118,.B (r4.2==0))]<|B8 4 118 122 [2,3,5,9,11,14,15,80,81,104,105] (.B ((r4.2==0)&&(r4.1==d))) J ?_ (fun hb17 hJ8=>?_) (fun hb17 hJ8=>?_)
           ·refine O<|A6 J (fun hc4=>?_) (fun hc4=>?_)
            ·refine Y<|Ac (.I 0)<|O<|H2<|Ez<|H2<|Ez<|rt
            refine Ah<|Ax<|Ai<|Z 2 [] [(105,.I (wi (x1+1)))]<|O<|B9 16<|A2 (Gw (hW1 (wi (x1+1)) _ _ ⟨J,J⟩))
           ·refine Z 2 [4,0] [(120,.A (rU d)),(119,.A (rU r4.1))]<|Co (tj:=118) (.B (r4.1==d)) J J J (Bl (Aa1 J J) J (Z8 Bp G2))<|Av (.B (r4.1==d))<|A4 hJ8 (.r4 (.r4 (.r2 (.r (.cons (K6 hb17) .nil)))))
           refine Z 4 [] [(122,.B false),(121,.und),(120,.und),(119,.und)]<|A4 hJ8 (.r4 (.r4 (.r2 (.r (.cons (Kx hb17) .nil)))))
          refine Bg J<|H2<|Aj1<|B9 8<|A2 (hJ9 () _ _ ⟨J,J⟩)
         refine Bg J<|H2<|Aj1<|B9 7<|A2 (hJ10 () _ _ ⟨J,J⟩)
        ·refine Z 5 [] [(64,.B true)]<|C0 (hJ7 true)
        refine Z 2 [1] [(61,.I o.Cost)]<|oc ((Yp o.Cost) _) fun r1 _=>Z 2 [] [(64,.B (!r1))]<|C0 (hJ7 (!r1))
       ·refine Z 5 [] [(58,.B true)]<|A4 hJ6 (.r4 (.cons (Ev hb13) .nil))
       refine Z 5 [1] [(58,.B (decide (o.Slot≥slots)))]<|A4 hJ6 (.r4 (.cons (Eu hb13) .nil))
      ·refine Z 4 [] [(52,.B true)]<|A4 hJ5 (.r4 (.cons (Ev hb11) .nil))
      refine Z 4 [1] [(52,.B (decide (o.Slot<0)))]<|A4 hJ5 (.r4 (.cons (Eu hb11) .nil))
     ·refine Z 7 [] [(47,.B true)]<|C0 (hJ4 true)
     refine Z 4 [1,1] [(44,.I o.Flight),(42,.I o.Airline)]<|oc ((Xi o.Airline o.Flight) _) fun r _=>Z 2 [] [(47,.B (!r))]<|C0 (hJ4 (!r))
    ·refine Z 5 [] [(39,.B true)]<|A4 hJ3 (.r4 (.cons (Ev hb7) .nil))
    refine Z 5 [1] [(39,.B (o.Airline != airline))]<|A4 hJ3 (.r4 (.cons (Eu hb7) .nil))
   ·refine Z 3 [] [(33,.B true)]<|A4 hJ2 (.r4 (.r (.cons (Ev hb5) .nil)))
   refine Z 3 [] [(33,.B (decide (slots > 8)))]<|A4 hJ2 (.r4 (.r (.cons (Eu hb5) .nil)))
  ·refine Z 3 [] [(29,.B true)]<|A4 hJ1 (.r4 (.r (.cons (Ev hb3) .nil)))
  refine Z 3 [] [(29,.B (decide (slots<1)))]<|A4 hJ1 (.r4 (.r (.cons (Eu hb3) .nil)))
 ·refine Z 3 [] [(25,.B true)]<|A4 hJ (.r4 (.r (.cons (Ev hb1) .nil)))
 refine Z 3 [] [(25,.B (decide (tables > 8)))]<|A4 hJ (.r4 (.r (.cons (Eu hb1) .nil)))
theorem Uw (c o):CP Tryz.prog 54 [.A (Aq c),.A (At o)] (Hx c o) (.int .i64):=by
 refine ci 49 3 func54 (Hx.eq_1 _ _) fun h0 ids hI hF=>Y<|B3 0 (.A (Aq c)) fun g=>B3 1 (.A (At o)) fun g1=>Ac (.I 0)<|O<|Ao ?_
 refine Y<|Z 4 [0,1] [(11,.I o.Flight),(9,.K c.Flights)]<|oc ((Oq c.Flights o.Flight) _) fun i _=>Ac (.I i)<|O<|Ab<|Ab<|C5 (fun x=>Jf c o x) (fun x=>fun fr h=>fr=Ad [(2,.q ids 0 g),(3,.q ids 1 g1),(24,.B x)]∧h=hp h0 ids [Aj g 8 [Aq c],Aj g1 37 [At o],none]) ?_ fun hJ=>?_
 ·rintro x fr h ⟨rfl,rfl⟩
  refine Af (Jf.eq_1 _ _ _)<|A6 J (fun hc=>?_) (fun hc=>?_)
  ·refine Y<|Ac (.I 400)<|O<|rt
  refine Ah<|Y<|Z 2 [0] [(27,.K c.Owners)]<|Do [2] hI J J (Pn c.Owners _ (ix ids 2) (by exact hI.sub' J J)) J J J J J J (fun v _=>D6 func54 hI) ?_
  rintro r _ _ _ ⟨g2,rfl,rfl⟩
  refine Hb [2] hI J J J ?_
  refine Ed<|Z 5 [] [(7,.K r.1),(6,.map (ix ids 2) g2)]<|O<|Ao ?_
  refine Ab<|Bt [0,1,0,0,8,28,63,127,0,256,0,0,2048,7168,0,16384,0,131071,262143] [pR 0,pR 1,pR 2,pR 3,pR 4,pR 8,pR 9,pR 10,pR 11,pR 12,pR 13,pR 14,pR 15,pR 16,pE 5,pR 6,pR 7,pE 17,pR 18] Dc<|Ap [0,1,1,1] [(31,.ptr (ix ids 0) g 0 5),(32,.M c.Commitments),(33,.K r.1),(34,.q ids 1 g1),(35,.I o.Airline),(39,.q ids 1 g1),(40,.I o.Airline),(41,.map (ix ids 2) g2),(42,.q ids 1 g1),(43,.I o.Airline)]<|A0 (.I (Option.getD (D0 r.2 o.Airline) 0)) J J (Pb (Qh (eK:=(fun x:Int=>(AV.I x))) (eV:=(fun x:Int=>(AV.I x))) (zv:=0) (M7 (hI.at J J)) Aeh Bk Bk Gx J).1)<|Ap [0,1] [(45,.ptr (ix ids 0) g 0 2),(46,.I c.Slots),(47,.A (At o))]<|Lf ((Oq r.1 o.Airline) _) (hpd:=(Ae J (Ba (A3 hI J J J Om J)) (Ae J (Ba (A3 hI J J J Bk J)) (Ae J (Hs (Mr 0 2 2 He J Bk J)) (Ae J (Pb (Qh (eK:=(fun x:Int=>(AV.I x))) (eV:=(fun x:Int=>(AV.I x))) (zv:=0) (M7 (hI.at J J)) Aeh Bk Bk Gx J).1) (Ae J (Ba (A3 hI J J J Bk J)) (Ae J (Hs (Mr 0 0 0 Om J Bk J)) (Ae J Bj (Ae J (Ba (A3 hI J J J Bk J)) (Ae J (Hs (Mr 0 0 0 Om J Bk J)) (Hy J (Jd J (Ae J (Ba (A3 hI J J J C3 J)) (Ae J (Hs (Mr 0 5 5 He J C3 J)) Dp)))))))))))))) fun r1 _=>?_
  refine Dx fun a1 hz1 hx2=>A0 (.cp (rU a1) 0) J J (As (Cl C3 Bp J hz1 hx2))<|Ap [] [(38,.A (rU a1))]<|Lf ((Adz a1 o.Airline (Option.getD (D0 r.2 o.Airline) 0) c.Slots o) _) fun r2 _=>?_
  refine Ap [] [(4,.I r2)]<|A7<|rt
 refine Bt [0,1,3,7,15,7,63,127,7,263,1023,2047] [pR 0,pR 1,pR 2,pR 3,pR 4,pR 5,pR 6,pR 7,pR 8,pR 9,pR 10,pR 11] Dc<|Ap [] [(13,.I i),(14,.B (decide (i<0))),(15,.B (decide (i<0)))]<|El (fun hb=>?_) (fun hb=>?_)
 ·refine Cr (t:=15) hb J<|Ap [] [(16,.und),(17,.und),(18,.und),(19,.und),(20,.und),(21,.und),(22,.und),(23,.und),(24,.B true)]<|A7<|A2 (hJ true _ _ ⟨J,J⟩)
 refine Cr (t:=15) hb J<|Ap [0] [(16,.ptr (ix ids 0) g 0 3),(17,.K c.Owners),(18,.I i)]<|Dx fun a hz hx1=>Gg (tj:=15) (.cp [.I a] 0) J J J J (As (Cl A8 Bk J hz hx1))<|Ap [1] [(20,.I a),(21,.q ids 1 g1),(22,.I o.Airline),(23,.B (a != o.Airline)),(24,.B (a != o.Airline))]<|A7<|A2 (hJ (a != o.Airline) _ _ ⟨J,J⟩)
end Go.Am

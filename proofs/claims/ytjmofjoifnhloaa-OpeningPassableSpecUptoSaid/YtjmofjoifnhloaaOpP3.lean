/- Chapter 11, plain: Minutes, Legs, Blocked: both ways. -/
import Derived.Test.YtjmofjoifnhloaaOpP2
namespace Go.Am
open Go
set_option linter.unusedVariables false
set_option linter.unusedSimpArgs false
set_option maxRecDepth 100000

def opn (s : Segment) : List Span := if s.Open.length = 0 then [{ From := 0, To := 1440 }] else s.Open
def segOf (a : Airspace) (n : Int) : Option (Segment × Volume) :=
  if 0 ≤ n then (match a.Segments[n.toNat]? with
    | none => none
    | some s => if 0 ≤ s.Volume then (match a.Volumes[s.Volume.toNat]? with | none => none | some v => some (s, v)) else none) else none
def minsOf (p : Segment × Volume) : List Span := minus (opn p.1) p.2.Closed
def mins (a : Airspace) (n : Int) : Option (List Span) := (segOf a n).map minsOf
def answer {α : Type} : Option (List α) → List α × Int
  | some l => (l, 0)
  | none => ([], 1)
def unk : PV := ⟨86, .unit⟩
theorem catch_unk {α : Type} (F : R α) (els : PV → R α) : (R.pan unk).catch' (catchU 86 F els) = F := catchU_eq

theorem idx_some {α : Type} {l : List α} {n : Int} {x : α} (h0 : 0 ≤ n) (h : l[n.toNat]? = some x) : idx l n = .ok x := by unfold idx; rw [if_pos h0, h]
theorem get_none {α : Type} {l : List α} {n : Int} (h : (l.length : Int) ≤ n) : l[n.toNat]? = none := List.getElem?_eq_none (by omega)
theorem get_some {α : Type} {l : List α} {n : Int} (h0 : 0 ≤ n) (h : n < (l.length : Int)) : ∃ x, l[n.toNat]? = some x := ⟨_, List.getElem?_eq_getElem (by omega)⟩
theorem segOf_neg {a : Airspace} {n : Int} (h : n < 0) : segOf a n = none := by unfold segOf; rw [if_neg (by omega)]
theorem segOf_out {a : Airspace} {n : Int} (h0 : 0 ≤ n) (h : (a.Segments.length : Int) ≤ n) : segOf a n = none := by unfold segOf; rw [if_pos h0, get_none h]
theorem segOf_in {a : Airspace} {n : Int} {s : Segment} (h0 : 0 ≤ n) (hs : a.Segments[n.toNat]? = some s) : segOf a n = if 0 ≤ s.Volume then (match a.Volumes[s.Volume.toNat]? with | none => none | some v => some (s, v)) else none := by
  unfold segOf; rw [if_pos h0, hs]
theorem segOf_some {a : Airspace} {n : Int} {p : Segment × Volume} (h : segOf a n = some p) : 0 ≤ n ∧ a.Segments[n.toNat]? = some p.1 ∧ 0 ≤ p.1.Volume ∧ a.Volumes[p.1.Volume.toNat]? = some p.2 := by
  unfold segOf at h
  split at h
  · rename_i h0
    split at h
    · cases h
    · rename_i s hs
      split at h
      · rename_i hv
        split at h
        · cases h
        · rename_i v hvv
          cases h
          exact ⟨h0, hs, hv, hvv⟩
      · cases h
  · cases h
theorem opn_eq (s : Segment) : (if ((s.Open.length : Int) == 0) = true then ([{ From := 0, To := 1440 }] : List Span) else s.Open) = opn s := by
  unfold opn
  by_cases h : s.Open.length = 0
  · simp [h]
  · rw [if_neg h, if_neg (by simpa using h)]
theorem min_j1 (a : Airspace) (s : Segment) (l : List Span) (v : Volume) (h0 : 0 ≤ s.Volume) (hv : a.Volumes[s.Volume.toNat]? = some v) : opening_minutes_j1 a s l = .ok (minus l v.Closed) := by
  unfold opening_minutes_j1
  rw [idx_some h0 hv, R.ok_bind, hours_minus]
  rfl
theorem op_minutes (a : Airspace) (n : Int) : opening_minutes a n = match mins a n with | some l => .ok l | none => .pan unk := by
  unfold opening_minutes mins
  by_cases h0 : 0 ≤ n
  case neg => rw [segOf_neg (by omega), if_pos (by simp; omega)]; rfl
  by_cases h1 : n < (a.Segments.length : Int)
  case neg => rw [segOf_out h0 (by omega), if_pos (by simp; omega)]; rfl
  obtain ⟨s, hs⟩ := get_some h0 h1
  rw [if_neg (by simp; omega), idx_some h0 hs, R.ok_bind, segOf_in h0 hs]
  by_cases h2 : 0 ≤ s.Volume
  case neg => rw [if_pos (by simp; omega), if_neg h2]; rfl
  by_cases h3 : s.Volume < (a.Volumes.length : Int)
  case neg => rw [if_pos (by simp; omega), if_pos h2, get_none (by omega)]; rfl
  obtain ⟨v, hv⟩ := get_some h2 h3
  rw [if_neg (by simp; omega), if_pos h2, hv]
  simp only [Option.map_some, minsOf]
  rw [← opn_eq]
  split <;> rw [min_j1 a s _ v h2 hv] <;> simp_all
theorem op_Minutes (a : Airspace) (n : Int) : opening_Minutes a n = .ok (answer (mins a n)) := by
  unfold opening_Minutes opening_Minutes_m
  rw [op_minutes]
  cases mins a n with
  | some l => rfl
  | none => exact catch_unk _ _
theorem ref_known (a : Airspace) (n : Int) : ref11_known a n = .ok (segOf a n).isSome := by
  unfold ref11_known
  by_cases h0 : 0 ≤ n
  case neg => rw [segOf_neg (by omega), if_neg (by simp; omega)]; rfl
  rw [if_pos (by simpa using h0)]
  by_cases h1 : n < (a.Segments.length : Int)
  case neg => rw [segOf_out h0 (by omega), if_neg (by simp; omega)]; rfl
  obtain ⟨s, hs⟩ := get_some h0 h1
  rw [if_pos (by simpa using h1), idx_some h0 hs, R.ok_bind, segOf_in h0 hs]
  by_cases h2 : 0 ≤ s.Volume
  case neg => rw [if_neg (by simp; omega), if_neg h2]; rfl
  rw [if_pos (by simpa using h2), if_pos h2]
  by_cases h3 : s.Volume < (a.Volumes.length : Int)
  case neg => rw [get_none (by omega), decide_eq_false h3]; rfl
  obtain ⟨v, hv⟩ := get_some h2 h3
  rw [hv, decide_eq_true h3]; rfl
theorem ref_Minutes (a : Airspace) (n : Int) : ref11_Minutes a n = .ok (answer (mins a n)) := by
  unfold ref11_Minutes mins
  rw [ref_known, R.ok_bind]
  cases hs : segOf a n with
  | none => rfl
  | some p =>
    obtain ⟨h0, h1, h2, h3⟩ := segOf_some hs
    simp only [Option.isSome_some, if_true]
    rw [idx_some h0 h1, R.ok_bind]
    have j1 : ∀ l, ref11_Minutes_j1 a p.1 l = .ok (minus l p.2.Closed, 0) := fun l => by
      unfold ref11_Minutes_j1
      rw [idx_some h2 h3, R.ok_bind, ref_minus']; rfl
    simp only [Option.map_some, minsOf, answer]
    rw [← opn_eq]
    split <;> rw [j1] <;> simp_all

/-! ### legs -/
def legOf (a : Airspace) (n : Int) : Option Leg := (segOf a n).map fun p => { Segment := n, Volume := p.1.Volume, Length := p.1.Length, Minutes := minsOf p }
def omap {α β : Type} (f : α → Option β) : List α → Option (List β)
  | [] => some []
  | x :: l => match f x, omap f l with
    | some y, some r => some (y :: r)
    | _, _ => none
def legsOf (a : Airspace) (r : Int) : Option (List Leg) :=
  if 0 ≤ r then (match a.Routes[r.toNat]? with | none => none | some rt => omap (legOf a) rt.Segments) else none
theorem omap_len {α β : Type} {f : α → Option β} : ∀ {l : List α} {r : List β}, omap f l = some r → r.length = l.length
  | [], r, h => by cases h; rfl
  | x :: l, r, h => by
    unfold omap at h
    split at h
    · rename_i y r' hy hr; cases h; simp [omap_len hr]
    · cases h
theorem legs_b1 {σ : Type} (a : Airspace) (b : Leg → σ → R σ) (n : Int) (s : σ) : opening_legs_c1_b1 a b n s = match legOf a n with | some g => b g s | none => .pan unk := by
  unfold opening_legs_c1_b1
  rw [op_minutes]
  unfold mins legOf
  cases hs : segOf a n with
  | none => rfl
  | some p =>
    obtain ⟨h0, h1, h2, h3⟩ := segOf_some hs
    simp only [Option.map_some, R.ok_bind]
    rw [idx_some h0 h1, R.ok_bind, R.bind_ok]
theorem legs_fold {σ : Type} (a : Airspace) (b : Leg → σ → R σ) (h : Leg → σ → σ) (I : σ → Nat → Prop) (hI : ∀ g s n, I s (n + 1) → I (h g s) n ∧ b g s = .ok (h g s)) : ∀ (l : List Int) (k : Nat) (s : σ), I s l.length →
    eachS (fun _ a1 => fun s => opening_legs_c1_b1 a b a1 s) k l s = match omap (legOf a) l with | some ls => .ok (ls.foldl (fun s g => h g s) s) | none => .pan unk
  | [], k, s, _ => rfl
  | n :: l, k, s, hs => by
    rw [eachS_cons', legs_b1]
    unfold omap
    cases hg : legOf a n with
    | none => rfl
    | some g =>
      obtain ⟨h1, h2⟩ := hI g s l.length hs
      simp only [h2, R.ok_bind]
      rw [legs_fold a b h I hI l (k + 1) _ h1]
      cases omap (legOf a) l <;> rfl
theorem legs_iter {σ : Type} (a : Airspace) (r : Int) (b : Leg → σ → R σ) (h : Leg → σ → σ) (I : σ → Nat → Prop) (hI : ∀ g s n, I s (n + 1) → I (h g s) n ∧ b g s = .ok (h g s)) (s : σ) (hs : ∀ rt, a.Routes[r.toNat]? = some rt → I s rt.Segments.length) :
    opening_legs_c1 r a b s = match legsOf a r with | some ls => .ok (ls.foldl (fun s g => h g s) s) | none => .pan unk := by
  unfold opening_legs_c1 legsOf
  by_cases h0 : 0 ≤ r
  case neg => rw [if_pos (by simp; omega), if_neg h0]; rfl
  rw [if_pos h0]
  by_cases h1 : r < (a.Routes.length : Int)
  case neg => rw [if_pos (by simp; omega), get_none (by omega)]; rfl
  obtain ⟨rt, hrt⟩ := get_some h0 h1
  rw [if_neg (by simp; omega), idx_some h0 hrt, R.ok_bind, hrt, legs_fold a b h I hI _ 0 s (hs rt hrt)]
  simp only
  cases omap (legOf a) rt.Segments <;> rfl
/-- The sizes that are needed. -/
structure Small (a : Airspace) : Prop where
  seg : a.Segments.length ≤ 1048576
  vol : a.Volumes.length ≤ 1048576
  rt : a.Routes.length ≤ 1048576
  rs : ∀ r ∈ a.Routes, r.Segments.length ≤ 1048576
theorem foldl_snoc {α : Type} : ∀ (l s : List α), l.foldl (fun s g => s ++ [g]) s = s ++ l
  | [], s => by simp
  | a :: l, s => by rw [List.foldl_cons, foldl_snoc l]; simp
theorem op_Legs (a : Airspace) (r : Int) (hs : Small a) : opening_Legs a r = .ok (answer (legsOf a r)) := by
  unfold opening_Legs opening_Legs_m
  have := legs_iter a r (fun a1 z_ => R.np ((fun l => opening_Legs_b1 a1 l) z_)) (fun g s => s ++ [g]) (fun s n => s.length + n ≤ 1048576) (fun g s n hn => by
    refine ⟨by simp; omega, ?_⟩
    show R.np (opening_Legs_b1 g s) = _
    unfold opening_Legs_b1
    rw [if_pos (by simp [LIM]; omega)]
    rfl) [] (fun rt h => by have := hs.rs rt (List.mem_of_getElem? h); simpa using this)
  simp only [opening_legs_2, R.ok_bind, this]
  cases legsOf a r with
  | some l =>
    show R.ok (l.foldl (fun s g => s ++ [g]) [], (0 : Int)) = R.ok (l, 0)
    rw [foldl_snoc]; rfl
  | none => exact catch_unk _ _
theorem ref_legs_loop (a : Airspace) (r : Int) (rt : Route) (h0 : 0 ≤ r) (hrt : a.Routes[r.toNat]? = some rt) (hlen : rt.Segments.length ≤ 1048576) : ∀ (n k : Nat) (l : List Leg), k + n = rt.Segments.length → l.length = k →
    loop (un2 fun i l => ref11_Legs_b1 a r i l) ((k : Int), l) = .ok (match omap (legOf a) (rt.Segments.drop k) with | some ls => .inl (l ++ ls) | none => .inr ([], 1))
  | 0, k, l, hk, hl => by
    rw [loop_eq]
    have e : (un2 fun i l => ref11_Legs_b1 a r i l) ((k : Int), l) = .ok (.inr (.inl l)) := by
      show ref11_Legs_b1 _ _ _ _ = _
      unfold ref11_Legs_b1
      rw [idx_some h0 hrt, R.ok_bind, if_neg (by omega)]
    rw [e, List.drop_eq_nil_of_le (by omega)]
    simp [omap]
  | n + 1, k, l, hk, hl => by
    rw [loop_eq]
    have hlt : k < rt.Segments.length := by omega
    have e : (un2 fun i l => ref11_Legs_b1 a r i l) ((k : Int), l) = match legOf a rt.Segments[k] with | some g => .ok (.inl (((k + 1 : Nat) : Int), l ++ [g])) | none => .ok (.inr (.inr ([], 1))) := by
      show ref11_Legs_b1 _ _ _ _ = _
      unfold ref11_Legs_b1
      rw [idx_some h0 hrt, R.ok_bind, if_pos (by omega), idx_get hlt, R.ok_bind, ref_Minutes, R.ok_bind]
      unfold mins legOf
      cases hs : segOf a rt.Segments[k] with
      | none => rfl
      | some p =>
        obtain ⟨q0, q1, q2, q3⟩ := segOf_some hs
        show (if ((0 : Int) != 0) = true then _ else _) = _
        rw [if_neg (by simp), idx_some q0 q1, R.ok_bind, if_pos (by simp [LIM]; omega), wrap64 (by omega) (by omega)]
        simp [answer]
    rw [e, List.drop_eq_getElem_cons hlt]
    unfold omap
    cases hg : legOf a rt.Segments[k] with
    | none => rfl
    | some g =>
      simp only [R.ok_bind]
      rw [ref_legs_loop a r rt h0 hrt hlen n (k + 1) (l ++ [g]) (by omega) (by simp; omega)]
      cases omap (legOf a) (rt.Segments.drop (k + 1)) <;> simp
theorem ref_Legs (a : Airspace) (r : Int) (hs : Small a) : ref11_Legs a r = .ok (answer (legsOf a r)) := by
  unfold ref11_Legs legsOf
  by_cases h0 : 0 ≤ r
  case neg => rw [if_pos (by simp; omega), if_neg h0]; rfl
  rw [if_pos h0]
  by_cases h1 : r < (a.Routes.length : Int)
  case neg => rw [if_pos (by simp; omega), get_none (by omega)]; rfl
  obtain ⟨rt, hrt⟩ := get_some h0 h1
  rw [if_neg (by simp; omega), hrt]
  have := ref_legs_loop a r rt h0 hrt (hs.rs rt (List.mem_of_getElem? hrt)) rt.Segments.length 0 [] (by omega) rfl
  rw [show (0 : Int) = ((0 : Nat) : Int) from rfl, this]
  simp only [List.drop_zero, List.nil_append, R.ok_bind]
  cases omap (legOf a) rt.Segments <;> rfl

/-! ### blocked routes -/
def isBlocked (ls : List Leg) : Bool := ls.any fun g => (g.Minutes.length : Int) == 0
def blkGo (a : Airspace) : List Route → Nat → List Int → Option (List Int)
  | [], _, x => some x
  | _ :: rs, k, x => match legsOf a (k : Int) with
    | none => none
    | some ls => blkGo a rs (k + 1) (if isBlocked ls then x ++ [(k : Int)] else x)
def blk (a : Airspace) : Option (List Int) := blkGo a a.Routes 0 []
theorem foldl_or (ls : List Leg) (o : Bool) : ls.foldl (fun s g => s || ((g.Minutes.length : Int) == 0)) o = (o || isBlocked ls) := by
  induction ls generalizing o with
  | nil => simp [isBlocked]
  | cons g ls ih => rw [List.foldl_cons, ih]; simp [isBlocked, Bool.or_assoc]
theorem len_ite {b : Bool} {x : List Int} {k : Nat} {y : Int} (hx : x.length ≤ k) : (if b = true then x ++ [y] else x).length ≤ k + 1 := by
  split
  · simp; omega
  · omega
theorem op_blk_go (a : Airspace) : ∀ (rs : List Route) (k : Nat) (x : List Int), x.length ≤ k → k + rs.length ≤ 1048576 → eachS (fun j _ => fun x1 => opening_Blocked_b2 a j x1) k rs x = match blkGo a rs k x with | some l => .ok l | none => .pan unk
  | [], k, x, _, _ => rfl
  | rt :: rs, k, x, hx, hk => by
    simp only [List.length_cons] at hk
    rw [eachS_cons']
    unfold blkGo
    have e : opening_Blocked_b2 a k x = match legsOf a (k : Int) with | some ls => .ok (if isBlocked ls then x ++ [(k : Int)] else x) | none => .pan unk := by
      unfold opening_Blocked_b2
      have := legs_iter a (k : Int) (fun a2 z_ => R.np ((fun o => opening_Blocked_b1 a2 o) z_)) (fun g s => s || ((g.Minutes.length : Int) == 0)) (fun _ _ => True) (fun g s n _ => ⟨trivial, rfl⟩) false (fun _ _ => trivial)
      simp only [opening_legs_2, R.ok_bind, this]
      cases legsOf a (k : Int) with
      | none => rfl
      | some ls =>
        simp only [R.ok_bind]
        rw [foldl_or, Bool.false_or]
        cases isBlocked ls
        · rfl
        · simp only [if_true]; rw [if_pos (by simp [LIM]; omega)]
    rw [e]
    cases hl : legsOf a (k : Int) with
    | none => rfl
    | some ls =>
      simp only [R.ok_bind]
      exact op_blk_go a rs (k + 1) _ (len_ite hx) (by omega)
theorem op_Blocked (a : Airspace) (hs : Small a) : opening_Blocked a = .ok (answer (blk a)) := by
  unfold opening_Blocked opening_Blocked_m
  rw [op_blk_go a a.Routes 0 [] (by simp) (by have := hs.rt; omega)]
  show R.catch' (R.bind (match blk a with | some l => .ok l | none => .pan unk) _) _ = _
  cases blk a with
  | some l => rfl
  | none => exact catch_unk _ _
theorem ref_blk_go (a : Airspace) (hs : Small a) : ∀ (rs : List Route) (k : Nat) (x : List Int), x.length ≤ k → k + rs.length ≤ 1048576 → each (fun j _ => fun l => ref11_Blocked_b2 a j l) k rs x = .ok (match blkGo a rs k x with | some l => .inl l | none => .inr ([], 1))
  | [], k, x, _, _ => rfl
  | rt :: rs, k, x, hx, hk => by
    simp only [List.length_cons] at hk
    rw [each_cons]
    unfold blkGo
    have e : ref11_Blocked_b2 a k x = match legsOf a (k : Int) with | some ls => .ok (.inl (if isBlocked ls then x ++ [(k : Int)] else x)) | none => .ok (.inr ([], 1)) := by
      unfold ref11_Blocked_b2
      rw [ref_Legs a _ hs, R.ok_bind]
      cases legsOf a (k : Int) with
      | none => rfl
      | some ls =>
        show (if ((0 : Int) != 0) = true then _ else _) = _
        rw [if_neg (by simp)]
        have hf : ∀ (ls : List Leg) (i : Nat) (o : Bool), eachS (fun _ a2 => fun blocked => ref11_Blocked_b1 a2 blocked) i ls o = .ok (ls.foldl (fun s g => s || ((g.Minutes.length : Int) == 0)) o) := by
          intro ls
          induction ls with
          | nil => intro i o; rfl
          | cons g ls ih => intro i o; rw [eachS_cons']; exact ih (i + 1) _
        rw [hf, R.ok_bind, foldl_or, Bool.false_or]
        show (if isBlocked ls = true then _ else _) = R.ok (Sum.inl (if isBlocked ls = true then _ else _))
        cases isBlocked ls
        · rfl
        · simp only [if_true]; rw [if_pos (by simp [LIM]; omega)]
    rw [e]
    cases hl : legsOf a (k : Int) with
    | none => rfl
    | some ls =>
      simp only [R.ok_bind]
      exact ref_blk_go a hs rs (k + 1) _ (len_ite hx) (by omega)
theorem ref_Blocked (a : Airspace) (hs : Small a) : ref11_Blocked a = .ok (answer (blk a)) := by
  unfold ref11_Blocked
  rw [ref_blk_go a hs a.Routes 0 [] (by simp) (by have := hs.rt; omega)]
  unfold blk
  cases blkGo a a.Routes 0 [] <;> rfl
end Go.Am

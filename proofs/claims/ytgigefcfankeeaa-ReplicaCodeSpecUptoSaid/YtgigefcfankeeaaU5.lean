/- Written by shrink.py from texts of ours: comments struck, what is not reached left out, names short. -/
import Derived.Test.YtgigefcfankeeaaU4
import Derived.Shelf.Strconv.Itoa0
import Derived.Ground.SlgmProg
import Derived.Shelf.SortM.Plain
import Derived.Shelf.SortM.SortNone
import Derived.Test.YtgigefcfankeeaaProg
namespace Go.Am
open Go
set_option linter.unusedVariables false
set_option linter.unusedSimpArgs false
namespace Rp
def Q2 (v:Value):Prop:=(v.Kind=1∧v.S=[]∧v.L=[]∧Kp v.N)∨(v.Kind=2∧v.N=0∧v.L=[])
def Wf:Nat→Value→Prop
 | 0,v=>Q2 v
 | d+1,v=>Q2 v∨(v.Kind=3∧v.N=0∧v.S=[] ∧ ∀ x ∈ v.L,Wf d x)
def Kz (v:Value):List Int:=if v.Kind=1 then 1::J8 (O8 v.N) else 2::(J8 v.S.length++Cx v.S)
def enc:Nat→Value→List Int
 | 0,v=>Kz v
 | d+1,v=>if v.Kind=3 then 3::(J8 v.L.length++(v.L.map (enc d)).flatten) else Kz v
theorem Pm {d:Nat}{v:Value}(h:Q2 v):enc d v=Kz v:=by
 cases d with
 | zero=>rfl
 | succ d=>
  show(if v.Kind=3 then _ else _)=_
  rw [if_neg (by rcases h with h | h <;> omega)]
theorem Pe {d:Nat}{v:Value}(h:v.Kind=3):enc (d+1) v=3::(J8 v.L.length++(v.L.map (enc d)).flatten):=by
 show(if v.Kind=3 then _ else _)=_
 rw [if_pos h]
theorem Amm {d:Nat}(v:Value):1≤(enc d v).length:=by
 have : ∀ v,1≤(Kz v).length:=by
  intro v
  unfold Kz
  split <;> simp
 cases d with
 | zero=>exact this v
 | succ d=>
  show 1≤(if v.Kind=3 then _ else _:List Int).length
  split
  ·simp
  ·exact this v
theorem Ua {d:Nat} : ∀ l:List Value,l.length≤(l.map (enc d)).flatten.length
 | []=>by simp
 | v::l=>by
  have:=Ua (d:=d) l
  have:=Amm (d:=d) v
  simp only [List.map_cons,List.flatten_cons,List.length_append,List.length_cons]
  omega
theorem Kb (s:Vj):(Cx s).length=s.length:=List.length_map _
theorem Yb (s:Vj):Be (Cx s)=s:=by
 unfold Be Cx
 rw [List.map_map]
 conv=>rhs; rw [← List.map_id s]
 refine List.map_congr_left fun b _=>?_
 simp
theorem Y3 {l:List Int}(h:C6 l):Cx (Be l)=l:=by
 unfold Be Cx
 rw [List.map_map]
 conv=>rhs; rw [← List.map_id l]
 refine List.map_congr_left fun b hb=>?_
 have:=h b hb
 simp
 omega
theorem Aiw {f:Rd}{P:Value→Prop}{e:Value→List Int}(hf : ∀ l v r,C6 l→f l=some (v,r)→P v∧l=e v++r) : ∀ (n:Nat) (l:List Int) vs r,C6 l→Rt f n l=some (vs,r)→(∀ v ∈ vs,P v)∧l=(vs.map e).flatten++r∧vs.length=n
 | 0,l,vs,r,hb,h=>by cases h; exact⟨fun v hv=>(by cases hv),rfl,rfl⟩
 | n+1,l,vs,r,hb,h=>by
  rw [Rt] at h
  split at h
  ·cases h
  ·rename_i v r1 h1
   split at h
   ·cases h
   ·rename_i vs' r2 h2
    cases h
    obtain⟨p1,e1⟩:=hf l v r1 hb h1
    subst e1
    obtain⟨p2,e2,p3⟩:=Aiw hf n r1 vs' r hb.app h2
    refine⟨fun x hx=>?_,by rw [e2]; simp,by simp [p3]⟩
    rcases List.mem_cons.1 hx with rfl | q
    ·exact p1
    ·exact p2 x q
theorem Afb {W:Option Rd}{c:Int}{l:List Int}{v:Value}{r:List Int}(hb:C6 (c::l))(hc:c≠3)(h:R0 W (c::l)=some (v,r)):Q2 v∧c::l=Kz v++r:=by
 have hb':=hb.tail
 rw [Pl] at h
 split at h
 ·rename_i q1
  split at h
  ·cases h
  ·rename_i u r1 h1
   cases h
   obtain⟨e,_⟩:=Rl _ _ _ _ h1 hb'
   have hu:=X2 l 0 hb' (by omega) u r h1
   refine⟨.inl ⟨rfl,rfl,rfl,Amd (by simpa using hu)⟩,?_⟩
   unfold Kz
   rw [if_pos rfl,Aj6,e,q1]
   rfl
 split at h
 ·rename_i q1 q2
  split at h
  ·cases h
  ·rename_i n r1 h1
   split at h
   ·rename_i hn
    cases h
    obtain⟨e,_⟩:=Rl _ _ _ _ h1 hb'
    refine⟨.inr ⟨rfl,rfl,rfl⟩,?_⟩
    unfold Kz
    rw [if_neg (by show ¬ (2:Int)=1; decide)]
    have hb1:C6 r1:=by rw [e] at hb'; exact hb'.app
    have hs:C6 (r1.take n):=fun b hb=>hb1 b (List.mem_of_mem_take hb)
    show c::l=2::(J8 (Be (r1.take n)).length++Cx (Be (r1.take n)))++r1.drop n
    rw [Y3 hs,show(Be (r1.take n)).length=n by unfold Be; rw [List.length_map,List.length_take]; omega,e,q2]
    simp
   ·cases h
 ·cases h
theorem Aa1 : ∀ (d:Nat) (l:List Int) (v:Value) (r:List Int),C6 l→Sv d l=some (v,r)→Wf d v∧l=enc d v++r
 | 0,[],v,r,hb,h=>by cases h
 | d+1,[],v,r,hb,h=>by cases h
 | 0,c::l,v,r,hb,h=>by
  by_cases hc:c=3
  ·subst hc
   rw [show Sv 0=R0 none from rfl,Pl,if_neg (by decide),if_neg (by decide),if_pos rfl] at h
   cases h
  ·exact Afb hb hc h
 | d+1,c::l,v,r,hb,h=>by
  by_cases hc:c=3
  ·subst hc
   have hb':=hb.tail
   rw [show Sv (d+1)=R0 (some (Sv d)) from rfl,Pl,if_neg (by decide),if_neg (by decide),if_pos rfl] at h
   simp only at h
   split at h
   ·cases h
   ·rename_i n r1 h1
    split at h
    ·split at h
     ·cases h
     ·rename_i vs r2 h2
      cases h
      obtain⟨e,_⟩:=Rl _ _ _ _ h1 hb'
      have hb1:C6 r1:=by rw [e] at hb'; exact hb'.app
      obtain⟨p1,p2,p3⟩:=Aiw (Aa1 d) n r1 vs r hb1 h2
      refine⟨.inr ⟨rfl,rfl,rfl,p1⟩,?_⟩
      rw [Pe rfl]
      show(3:Int)::l=3::(J8 vs.length++(vs.map (enc d)).flatten)++r
      rw [p3,e,p2]
      simp
    ·cases h
  ·obtain⟨p1,p2⟩:=Afb hb hc h
   exact⟨.inl p1,by rw [Pm p1]; exact p2⟩
theorem Ahn {f:Rd}{d:Nat} : ∀ (vs:List Value) (r:List Int),(∀ v ∈ vs,∀ r,f (enc d v++r)=some (v,r))→Rt f vs.length ((vs.map (enc d)).flatten++r)=some (vs,r)
 | [],r,h=>rfl
 | v::vs,r,h=>by
  show Rt f (vs.length+1) _=_
  rw [List.map_cons,List.flatten_cons,List.append_assoc,Rt,h v (List.mem_cons_self ..)]
  simp only
  rw [Ahn vs r fun x hx=>h x (List.mem_cons_of_mem _ hx)]
theorem Ag7 {W:Option Rd}{v:Value}(h:Q2 v)(r:List Int)(hl:(Kz v).length≤2000000000):R0 W (Kz v++r)=some (v,r):=by
 obtain⟨k,n,s,l⟩:=v
 rcases h with⟨h1,h2,h3,h4⟩ | ⟨h1,h2,h3⟩
 ·simp only at h1 h2 h3 h4
  subst h1 h2 h3
  unfold Kz
  rw [if_pos rfl]
  show R0 W (1::(J8 (O8 n)++r))=_
  rw [Pl,if_pos rfl,Aeg (Uq h4)]
  simp only [Ajk]
 ·simp only at h1 h2 h3
  subst h1 h2 h3
  unfold Kz at hl ⊢
  rw [if_neg (by show ¬ (2:Int)=1; decide)] at hl ⊢
  simp only [List.length_cons,List.length_append,Kb] at hl
  show R0 W (2::(J8 s.length++Cx s++r))=_
  rw [Pl,if_neg (by decide),if_pos rfl,List.append_assoc,Aeg (by omega)]
  simp only
  rw [if_pos (by rw [List.length_append,Kb]; omega),List.take_left' (Kb s),List.drop_left' (Kb s),Yb]
theorem Ac5 {d:Nat}{x:Value}{l:List Value}(h:x ∈ l):(enc d x).length≤(l.map (enc d)).flatten.length:=by
 induction l with
 | nil=>cases h
 | cons a l ih=>
  rw [List.map_cons,List.flatten_cons,List.length_append]
  rcases List.mem_cons.1 h with rfl | q
  ·omega
  ·have:=ih q
   omega
theorem Aht : ∀ (d:Nat) (v:Value) (r:List Int),Wf d v→(enc d v).length≤2000000000→Sv d (enc d v++r)=some (v,r)
 | 0,v,r,h,hl=>Ag7 (W:=none) h r hl
 | d+1,v,r,h,hl=>by
  rcases h with h | ⟨h1,h2,h3,h4⟩
  ·rw [Pm h] at hl ⊢
   exact Ag7 (W:=some (Sv d)) h r hl
  ·rw [Pe h1] at hl ⊢
   obtain⟨k,n,s,l⟩:=v
   simp only at h1 h2 h3 h4
   subst h1 h2 h3
   simp only [List.length_cons,List.length_append] at hl
   have hfl:=Ua (d:=d) l
   show R0 (some (Sv d)) (3::(J8 l.length++(l.map (enc d)).flatten++r))=_
   rw [Pl,if_neg (by decide),if_neg (by decide),if_pos rfl,List.append_assoc,Aeg (by omega)]
   simp only
   rw [if_pos (by rw [List.length_append]; omega),Ahn l r fun x hx r=>Aht d x r (h4 x hx) (by have:=Ac5 (d:=d) hx; omega)]
theorem Z4 {W:Value→R (Int×Bool)}{d:Nat} : ∀ (l:List Value) (k m:Nat),(∀ x ∈ l,∃ e:Nat,W x=.ok ((e:Int),true)∧e≤d)→m≤d → ∃ e:Nat,each (fun _ a=>fun depth=>Ga W a depth) k l (m:Int)=.ok (.inl (e:Int))∧e≤d
 | [],k,m,h,hm=>⟨m,rfl,hm⟩
 | x::l,k,m,h,hm=>by
  obtain⟨e,e1,e2⟩:=h x (List.mem_cons_self ..)
  have hst:Ga W x (m:Int)=.ok (.inl ((max m e:Nat):Int)):=by
   unfold Ga
   rw [e1,R.ok_bind,if_pos rfl]
   congr 2
   split <;> omega
  rw [N1]
  simp only [hst,R.ok_bind]
  exact Z4 l (k+1) (max m e) (fun y hy=>h y (List.mem_cons_of_mem _ hy)) (by omega)
theorem Z8 {W:Value→R (Int×Bool)}{v:Value}(h:Q2 v):Ix W v=.ok (0,true):=by
 obtain⟨k,n,s,l⟩:=v
 rcases h with⟨h1,h2,h3,h4⟩ | ⟨h1,h2,h3⟩
 ·simp only at h1 h2 h3
  subst h1 h2 h3
  rfl
 ·simp only at h1 h2 h3
  subst h1 h2 h3
  rfl
theorem Afr : ∀ (n d:Nat) (v:Value),d<n→d≤16→Wf d v → ∃ e:Nat,H1 n v=.ok ((e:Int),true)∧e≤d
 | 0,d,v,h1,h2,h3=>by omega
 | n+1,0,v,h1,h2,h3=>⟨0,Z8 h3,Nat.le_refl _⟩
 | n+1,d+1,v,h1,h2,h3=>by
  rcases h3 with h | ⟨q1,q2,q3,q4⟩
  ·exact⟨0,Z8 h,by omega⟩
  ·obtain⟨k,m,s,l⟩:=v
   simp only at q1 q2 q3 q4
   subst q1 q2 q3
   obtain⟨e,e1,e2⟩:=Z4 l 0 0 (fun x hx=>Afr n d x (by omega) (by omega) (q4 x hx)) (by omega)
   refine⟨e+1,?_,by omega⟩
   show Ix (H1 n) _=_
   have:Ix (H1 n) { Kind:=3,N:=0,S:=[],L:=l }=(each (fun _ a=>fun depth=>Ga (H1 n) a depth) 0 l 0).bind (G9 (fun depth=>.ok ((IntKind.wrap .i64 (depth+1)),true)) (fun r=>.ok r)):=rfl
   rw [this,show(0:Int)=((0:Nat):Int) from rfl,e1]
   simp only [R.ok_bind,G9]
   rw [F4 (by omega) (by omega)]
   rfl
theorem Ajb {v:Value}(h:Wf 16 v):Mv v=.ok 0:=by
 obtain⟨e,e1,e2⟩:=Afr Jv 16 v (by rw [Me]; omega) (by omega) h
 unfold Mv Ph
 rw [e1,R.ok_bind,if_pos rfl,if_neg (by omega)]
theorem Adu : ∀ (n d:Nat) (v:Value),d<n→Wf d v→I3 n v=.ok true
 | 0,d,v,h1,h3=>by omega
 | n+1,d,v,h1,h3=>by
  have leaf:Q2 v→I3 (n+1) v=.ok true:=by
   intro h
   obtain⟨k,m,s,l⟩:=v
   rcases h with⟨w1,w2,w3,w4⟩ | ⟨w1,w2,w3⟩
   ·simp only at w1 w2 w3
    subst w1 w2 w3
    rfl
   ·simp only at w1 w2 w3
    subst w1 w2 w3
    rfl
  cases d with
  | zero=>exact leaf h3
  | succ d=>
   rcases h3 with h | ⟨q1,q2,q3,q4⟩
   ·exact leaf h
   ·obtain⟨k,m,s,l⟩:=v
    simp only at q1 q2 q3 q4
    subst q1 q2 q3
    have:I3 (n+1) { Kind:=3,N:=0,S:=[],L:=l }=(each (fun _ a=>fun _=>Kt (I3 n) a) 0 l ()).bind (G9 (fun _=>.ok (((0:Int)==0)&&(([]:Vj)==[]))) (fun r=>.ok r)):=rfl
    rw [this,Aai l 0 fun j x hx=>by
     simp only [Kt]
     rw [Adu n d x (by omega) (q4 x (List.mem_of_getElem? hx)),R.ok_bind,if_pos rfl]]
    rfl
theorem Z9 {W:Value→R Int}{d:Nat} : ∀ (l:List Value) (k m:Nat),(∀ x ∈ l,∃ e:Nat,W x=.ok (e:Int)∧e≤d)→m≤d → ∃ e:Nat,E3 (fun _ a=>fun n=>J3 W a n) k l (m:Int)=.ok (e:Int)∧e≤d
 | [],k,m,h,hm=>⟨m,rfl,hm⟩
 | x::l,k,m,h,hm=>by
  obtain⟨e,e1,e2⟩:=h x (List.mem_cons_self ..)
  have hst:J3 W x (m:Int)=.ok ((max m e:Nat):Int):=by
   unfold J3
   rw [e1,R.ok_bind]
   congr 1
   split <;> omega
  rw [M5]
  simp only [hst,R.ok_bind]
  exact Z9 l (k+1) (max m e) (fun y hy=>h y (List.mem_cons_of_mem _ hy)) (by omega)
theorem Ae4 : ∀ (n d:Nat) (v:Value),d<n→d≤16→Wf d v → ∃ e:Nat,Ju n v=.ok (e:Int)∧e≤d
 | 0,d,v,h1,h2,h3=>by omega
 | n+1,d,v,h1,h2,h3=>by
  have leaf:Q2 v→Ju (n+1) v=.ok 0:=by
   intro h
   show Kw (Ju n) v=_
   unfold Kw
   rw [if_pos (by rcases h with h | h <;> simp [h.1])]
  cases d with
  | zero=>exact⟨0,leaf h3,Nat.le_refl _⟩
  | succ d=>
   rcases h3 with h | ⟨q1,q2,q3,q4⟩
   ·exact⟨0,leaf h,by omega⟩
   ·obtain⟨e,e1,e2⟩:=Z9 v.L 0 0 (fun x hx=>Ae4 n d x (by omega) (by omega) (q4 x hx)) (by omega)
    refine⟨e+1,?_,by omega⟩
    show Kw (Ju n) v=_
    unfold Kw
    rw [if_neg (by simp [q1]),show(0:Int)=((0:Nat):Int) from rfl,e1]
    simp only [R.ok_bind]
    rw [F4 (by omega) (by omega)]
    rfl
theorem Abv {v:Value}(h:Wf 16 v):Oy v=.ok 0:=by
 obtain⟨e,e1,e2⟩:=Ae4 Jv 16 v (by rw [Me]; omega) (by omega) h
 unfold Oy Uk V4
 rw [Adu Jv 16 v (by rw [Me]; omega) h,R.ok_bind,if_pos rfl,e1,R.ok_bind,if_neg (by omega)]
end Rp
end Go.Am
namespace Go.Am
open Go
set_option linter.unusedVariables false
set_option linter.unusedSimpArgs false
namespace Rp
theorem Al7 {v:Value}{l:List Int}(h:v.Kind=1)(hn:Kp v.N)(hl:l.length≤1000000000):Em v l=.ok (l++Kz v):=by
 unfold Em
 rw [if_pos (by simp only [List.length_singleton]; unfold C2; omega),Agg hn,R.ok_bind,Xb (Uq hn) (by simp only [List.length_append,List.length_singleton]; omega),R.ok_bind]
 unfold Kz
 rw [if_pos h]
 simp
theorem Al8 {v:Value}{l:List Int}(h:v.Kind=2)(hl:l.length+(Kz v).length≤1000000000):Ek v l=.ok (l++Kz v):=by
 have e:Kz v=2::(J8 v.S.length++Cx v.S):=by unfold Kz; rw [if_neg (by omega)]
 rw [e] at hl ⊢
 simp only [List.length_cons,List.length_append,Kb] at hl
 unfold Ek
 rw [if_pos (by simp only [List.length_singleton]; unfold C2; omega),Er (by omega),Xb (by omega) (by simp only [List.length_append,List.length_singleton]; omega),R.ok_bind,if_pos (by simp only [List.length_append,List.length_singleton,Kb]; unfold C2; omega)]
 simp
theorem Aoc {W:Value→List Int→R (List Int)}{d:Nat}{a:Value}{b:List Int}(h:Wf d a)(hW:a.Kind=3→W a b=.ok (b++enc d a))(hl:b.length+(enc d a).length≤1000000000):Dz W a b=.ok (b++enc d a):=by
 have leaf:Q2 a→Dz W a b=.ok (b++enc d a):=by
  intro hq
  rw [Pm hq] at hl ⊢
  unfold Dz
  rcases hq with⟨h1,_,_,h4⟩ | ⟨h1,_,_⟩
  ·rw [if_neg (by omega),if_pos h1,Al7 h1 h4 (by omega)]
   rfl
  ·rw [if_neg (by omega),if_neg (by omega),if_pos h1,Al8 h1 hl]
   rfl
 cases d with
 | zero=>exact leaf h
 | succ d=>
  rcases h with h | ⟨h1,_,_,_⟩
  ·exact leaf h
  ·unfold Dz
   rw [if_neg (by omega),if_neg (by omega),if_neg (by omega),if_pos h1,hW h1]
   rfl
theorem Ajw {g:Value→List Int→R (List Int)}{d:Nat} : ∀ (l:List Value) (k:Nat) (b:List Int),(∀ x ∈ l,∀ b:List Int,b.length+(enc d x).length≤1000000000→g x b=.ok (b++enc d x))→b.length+(l.map (enc d)).flatten.length≤1000000000 →
  E3 (fun _ a=>fun b1=>g a b1) k l b=.ok (b++(l.map (enc d)).flatten)
 | [],k,b,h,hl=>by rw [T0]; simp
 | x::l,k,b,h,hl=>by
  rw [List.map_cons,List.flatten_cons] at hl ⊢
  rw [List.length_append] at hl
  rw [M5,h x (List.mem_cons_self ..) b (by omega),R.ok_bind,Ajw l (k+1) (b++enc d x) (fun y hy=>h y (List.mem_cons_of_mem _ hy)) (by rw [List.length_append]; omega),List.append_assoc]
theorem Afo : ∀ (n d:Nat) (v:Value) (l:List Int),d<n→v.Kind=3→(∀ x ∈ v.L,Wf d x)→l.length+(enc (d+1) v).length≤1000000000→En n v l=.ok (l++enc (d+1) v)
 | 0,d,v,l,h1,h2,h3,hl=>by omega
 | n+1,d,v,l,h1,h2,h3,hl=>by
  rw [Pe h2] at hl ⊢
  simp only [List.length_cons,List.length_append] at hl
  have hfl:=Ua (d:=d) v.L
  show Dv (En n) v l=_
  unfold Dv
  rw [if_pos (by simp only [List.length_singleton]; unfold C2; omega),Er (by omega),Xb (by omega) (by simp only [List.length_append,List.length_singleton]; omega),R.ok_bind]
  rw [Ajw (d:=d) v.L 0 _ (fun x hx b hb=>Aoc (h3 x hx) (fun hk=>by
   cases d with
   | zero=>
    have hq:Q2 x:=h3 x hx
    rcases hq with q | q <;> omega
   | succ d=>
    have hx3:=h3 x hx
    rcases hx3 with q | ⟨_,_,_,q4⟩
    ·rcases q with q | q <;> omega
    ·exact Afo n d x b (by omega) hk q4 hb) hb) (by simp only [List.length_append,List.length_singleton]; omega)]
  simp
theorem Ait {v:Value}(h:Wf 16 v)(hl:(enc 16 v).length≤1000000000):Jl v=.ok (enc 16 v,0):=by
 unfold Jl
 rw [Ajb h,R.ok_bind,if_neg (by simp)]
 unfold Jt
 rw [R.ok_bind]
 rcases h with h | ⟨h1,h2,h3,h4⟩
 ·rw [Pm h] at hl ⊢
  rcases h with⟨h1,_,_,h4⟩ | ⟨h1,_,_⟩
  ·rw [if_neg (by omega),if_pos h1,Al7 h1 h4 (by simp)]
   rfl
  ·rw [if_neg (by omega),if_neg (by omega),if_pos h1,Al8 h1 (by simpa using hl)]
   rfl
 ·rw [if_neg (by omega),if_neg (by omega),if_neg (by omega),if_pos h1]
  have e:Gt v=Dv Gz v []:=by
   unfold Gt Dv
   simp only [List.length_nil,Nat.zero_add,List.nil_append]
   rfl
  have e2:Dv Gz v []=En (Jv+1) v []:=rfl
  rw [e,e2,Afo (Jv+1) 15 v [] (by rw [Me]; omega) h1 h4 (by simpa using hl)]
  rfl
theorem Aja {W:Value→R (List Int)}{d:Nat} : ∀ (l:List Value) (k:Nat) (b:List Int),(∀ x ∈ l,W x=.ok (enc d x))→b.length+(l.map (enc d)).flatten.length≤1000000000 →
  E3 (fun _ a=>fun out=>Ji W a out) k l b=.ok (b++(l.map (enc d)).flatten)
 | [],k,b,h,hl=>by rw [T0]; simp
 | x::l,k,b,h,hl=>by
  rw [List.map_cons,List.flatten_cons] at hl ⊢
  rw [List.length_append] at hl
  have hst:Ji W x b=.ok (b++enc d x):=by
   unfold Ji
   rw [h x (List.mem_cons_self ..),R.ok_bind,if_pos (by unfold C2; omega)]
  rw [M5,hst,R.ok_bind,Aja l (k+1) (b++enc d x) (fun y hy=>h y (List.mem_cons_of_mem _ hy)) (by rw [List.length_append]; omega),List.append_assoc]
theorem Yi : ∀ (n d:Nat) (v:Value),d<n→Wf d v→(enc d v).length≤1000000000→I5 n v=.ok (enc d v)
 | 0,d,v,h1,h3,hl=>by omega
 | n+1,d,v,h1,h3,hl=>by
  have leaf:Q2 v→I5 (n+1) v=.ok (enc d v):=by
   intro hq
   rw [Pm hq] at hl ⊢
   show J2 (I5 n) v=_
   unfold J2
   rcases hq with⟨h1,_,_,h4⟩ | ⟨h1,_,_⟩
   ·have:=Pu (Uq h4)
    rw [if_pos (by simpa using h1),Ae3 h4,R.ok_bind,Vp (Uq h4),R.ok_bind,if_pos (by simp only [List.length_singleton]; unfold C2; omega)]
    unfold Kz
    rw [if_pos h1]
    rfl
   ·have e:Kz v=2::(J8 v.S.length++Cx v.S):=by unfold Kz; rw [if_neg (by omega)]
    rw [e] at hl ⊢
    simp only [List.length_cons,List.length_append,Kb] at hl
    rw [if_neg (by simp [h1]),if_pos (by simpa using h1),Er (by omega),Vp (by omega),R.ok_bind,if_pos (by simp only [List.length_singleton]; unfold C2; omega),if_pos (by simp only [List.length_append,List.length_singleton,Kb]; unfold C2; omega)]
    rfl
  cases d with
  | zero=>exact leaf h3
  | succ d=>
   rcases h3 with h | ⟨q1,q2,q3,q4⟩
   ·exact leaf h
   ·rw [Pe q1] at hl ⊢
    simp only [List.length_cons,List.length_append] at hl
    have hfl:=Ua (d:=d) v.L
    show J2 (I5 n) v=_
    unfold J2
    rw [if_neg (by simp [q1]),if_neg (by simp [q1]),Er (by omega),Vp (by omega),R.ok_bind,if_pos (by simp only [List.length_singleton]; unfold C2; omega)]
    rw [Aja (d:=d) v.L 0 _ (fun x hx=>Yi n d x (by omega) (q4 x hx) (by have:=Ac5 (d:=d) hx; omega)) (by simp only [List.length_append,List.length_singleton]; omega)]
    simp
theorem Agj {v:Value}(h:Wf 16 v)(hl:(enc 16 v).length≤1000000000):Ny v=.ok (enc 16 v,0):=by
 unfold Ny Pq
 rw [Abv h,R.ok_bind,if_neg (by simp),Yi Jv 16 v (by rw [Me]; omega) h hl]
 rfl
theorem Aic {b:List Int}(hb:C6 b)(hl:b.length≤1000000000):Pf b=.ok (Ma b):=by
 obtain⟨v,s,e1,e2⟩:=Ajx hb (by omega)
 unfold Pf Ma
 rw [e1,R.ok_bind]
 cases hr:Sv 16 b with
 | none=>
  rw [hr] at e2
  simp only
  rw [if_pos e2]
  rfl
 | some p=>
  obtain⟨v',r⟩:=p
  rw [hr] at e2
  obtain⟨rfl,rfl⟩:=e2
  obtain⟨w1,w2⟩:=Aa1 16 b v r hb hr
  simp only
  rw [Aa5,if_neg (show ¬ (false=true) by simp)]
  cases r with
  | nil=>
   rw [List.append_nil] at w2
   rw [if_neg (by simp [T111.at']),Abv w1,R.ok_bind,if_neg (by simp)]
   unfold Pq
   rw [Yi Jv 16 v (by rw [Me]; omega) w1 (by rw [← w2]; exact hl),R.ok_bind,← w2]
   simp only [beq_self_eq_true,Bool.not_true]
   rfl
  | cons a r=>
   rw [if_pos (by simp [T111.at']; omega)]
   rfl
end Rp
end Go.Am
namespace Go.Am
open Go
set_option linter.unusedVariables false
set_option linter.unusedSimpArgs false
namespace Rp
def iv (n:Int):Value:={ Kind:=1,N:=n,S:=[],L:=[] }
def rv (a:Record):Value:={ Kind:=3,N:=0,S:=[],L:=[iv a.Term,{ Kind:=2,N:=0,S:=Be a.Data,L:=[] }] }
def lv (l:List Record):Value:={ Kind:=3,N:=0,S:=[],L:=l.map rv }
def bi (b:Bool):Int:=if b then 1 else 0
def Mb (m:Message):Value:={ Kind:=3,N:=0,S:=[],L:=[iv m.Kind,iv m.From,iv m.To,iv m.Term,iv m.Last,iv m.LastTerm,lv m.Log,iv m.Commit,iv m.Match,iv (bi m.Granted)] }
structure MI (m:Message):Prop where
 kind:Kp m.Kind
 frm:Kp m.From
 to:Kp m.To
 term:Kp m.Term
 last:Kp m.Last
 lt:Kp m.LastTerm
 commit:Kp m.Commit
 mat:Kp m.Match
 log : ∀ a ∈ m.Log,Kp a.Term∧C6 a.Data
theorem Acm {n:Int}(h:Kp n):Q2 (iv n):=.inl ⟨rfl,rfl,rfl,h⟩
theorem Zg {m:Message}(h:MI m):Wf 16 (Mb m):=by
 have hl : ∀ (d:Nat) n,Kp n→Wf d (iv n):=by
  intro d n hn
  cases d with
  | zero=>exact Acm hn
  | succ d=>exact .inl (Acm hn)
 refine .inr ⟨rfl,rfl,rfl,fun x hx=>?_⟩
 have hx':x ∈ [iv m.Kind,iv m.From,iv m.To,iv m.Term,iv m.Last,iv m.LastTerm,lv m.Log,iv m.Commit,iv m.Match,iv (bi m.Granted)]:=hx
 simp only [List.mem_cons,List.not_mem_nil,or_false] at hx'
 rcases hx' with rfl | rfl | rfl | rfl | rfl | rfl | rfl | rfl | rfl | rfl
 ·exact hl _ _ h.kind
 ·exact hl _ _ h.frm
 ·exact hl _ _ h.to
 ·exact hl _ _ h.term
 ·exact hl _ _ h.last
 ·exact hl _ _ h.lt
 ·refine .inr ⟨rfl,rfl,rfl,fun y hy=>?_⟩
  obtain⟨a,ha,rfl⟩:=List.mem_map.1 hy
  refine .inr ⟨rfl,rfl,rfl,fun z hz=>?_⟩
  have hz':z ∈ [iv a.Term,({ Kind:=2,N:=0,S:=Be a.Data,L:=[] }:Value)]:=hz
  simp only [List.mem_cons,List.not_mem_nil,or_false] at hz'
  rcases hz' with rfl | rfl
  ·exact hl _ _ (h.log a ha).1
  ·exact .inl (.inr ⟨rfl,rfl,rfl⟩)
 ·exact hl _ _ h.commit
 ·exact hl _ _ h.mat
 ·refine hl _ _ ?_
  unfold Kp bi
  split <;> omega
theorem Akk {d:Nat}{n:Int}(h:Kp n):(enc d (iv n)).length≤11:=by
 rw [Pm (Acm h)]
 have:=Pu (Uq h)
 show(1::J8 (O8 n)).length≤11
 simp only [List.length_cons]
 omega
theorem Y1 (l:List Int):(Be l).length=l.length:=List.length_map _
theorem Ank {d:Nat}{a:Record}(h:Kp a.Term)(hd:a.Data.length≤100):(enc (d+1) (rv a)).length≤200:=by
 rw [Pe rfl]
 have h1:=Akk (d:=d) h
 have h2:enc d ({ Kind:=2,N:=0,S:=Be a.Data,L:=[] }:Value)=2::(J8 (Be a.Data).length++Cx (Be a.Data)):=by
  rw [Pm (.inr ⟨rfl,rfl,rfl⟩)]
  unfold Kz
  rw [if_neg (by show ¬ (2:Int)=1; decide)]
 have h3:=Pu (u:=(Be a.Data).length) (by rw [Y1]; omega)
 have h4:=Pu (u:=2) (by omega)
 show(3::(J8 2++([iv a.Term,({ Kind:=2,N:=0,S:=Be a.Data,L:=[] }:Value)].map (enc d)).flatten)).length≤200
 simp only [List.map_cons,List.map_nil,List.flatten_cons,List.flatten_nil,List.length_cons,List.length_append,List.length_nil,h2,Kb,Y1]
 rw [Y1] at h3
 omega
theorem Ahc {d:Nat} : ∀ l:List Record,(∀ a ∈ l,Kp a.Term∧a.Data.length≤100)→((l.map rv).map (enc (d+1))).flatten.length≤200 * l.length
 | [],h=>by simp
 | a::l,h=>by
  have h1:=Ahc (d:=d) l fun x hx=>h x (List.mem_cons_of_mem _ hx)
  obtain⟨h2,h3⟩:=h a (List.mem_cons_self ..)
  have:=Ank (d:=d) h2 h3
  simp only [List.map_cons,List.flatten_cons,List.length_append,List.length_cons]
  omega
theorem Akv {m:Message}(h:MI m)(h1:m.Log.length≤20)(h2 : ∀ a ∈ m.Log,a.Data.length≤100):(enc 16 (Mb m)).length≤10000:=by
 have hv:((m.Log.map rv).map (enc 14)).flatten.length≤200 * m.Log.length:=Ahc (d:=13) m.Log fun a ha=>⟨(h.log a ha).1,h2 a ha⟩
 have hn:=Pu (u:=m.Log.length) (by omega)
 have h10:=Pu (u:=10) (by omega)
 have i : ∀ {n},Kp n→(enc 15 (iv n)).length≤11:=fun q=>Akk q
 have hb:Kp (bi m.Granted):=by unfold Kp bi; split <;> omega
 have i1:=i h.kind; have i2:=i h.frm; have i3:=i h.to; have i4:=i h.term; have i5:=i h.last; have i6:=i h.lt; have i7:=i h.commit; have i8:=i h.mat; have i9:=i hb
 have hl:(enc 15 (lv m.Log)).length≤11+200 * m.Log.length:=by
  rw [Pe rfl]
  show(3::(J8 (m.Log.map rv).length++((m.Log.map rv).map (enc 14)).flatten)).length≤_
  simp only [List.length_cons,List.length_append]
  rw [List.length_map]
  omega
 rw [Pe rfl]
 show(3::(J8 10++([iv m.Kind,iv m.From,iv m.To,iv m.Term,iv m.Last,iv m.LastTerm,lv m.Log,iv m.Commit,iv m.Match,iv (bi m.Granted)].map (enc 15)).flatten)).length≤10000
 simp only [List.map_cons,List.map_nil,List.flatten_cons,List.flatten_nil,List.length_cons,List.length_append,List.length_nil]
 omega
theorem Aaz {g:Record→List Value→R (List Value)}(hg : ∀ a l,l.length≤2000000000→g a l=.ok (l++[rv a])) : ∀ (l:List Record) (k:Nat) (s:List Value),s.length+l.length≤2000000000→E3 (fun _ a=>fun l=>g a l) k l s=.ok (s++l.map rv)
 | [],k,s,h=>by rw [T0]; simp
 | a::l,k,s,h=>by
  simp only [List.length_cons] at h
  rw [M5,hg a s (by omega),R.ok_bind,Aaz hg l (k+1) (s++[rv a]) (by simp only [List.length_append,List.length_singleton]; omega)]
  simp
theorem Afv {m:Message}(h:MI m)(hl:(enc 16 (Mb m)).length≤1000000000)(hn:m.Log.length≤1000000000):Gm m=.ok (enc 16 (Mb m),0):=by
 unfold Gm
 rw [Aaz (g:=Ic) (fun a l hl=>by
  unfold Ic C1
  rw [R.ok_bind,if_pos (by simp only [List.length_singleton]; unfold C2; omega)]
  rfl) m.Log 0 [] (by simp only [List.length_nil]; omega)]
 have key : ∀ g:Int,g=bi m.Granted→Fq m ([]++m.Log.map rv) g=.ok (enc 16 (Mb m),0):=by
  rintro g rfl
  unfold Fq C1
  simp only [R.ok_bind,List.nil_append]
  show((Jl (Mb m)).bind fun r10=>R.ok (r10.1,r10.2))=_
  rw [Ait (Zg h) hl]
  rfl
 simp only [R.ok_bind]
 cases hg:m.Granted with
 | true=>rw [if_pos rfl]; exact key 1 (by rw [hg]; rfl)
 | false=>rw [if_neg (by simp)]; exact key 0 (by rw [hg]; rfl)
theorem Ai5 {m:Message}(h:MI m)(hl:(enc 16 (Mb m)).length≤1000000000)(hn:m.Log.length≤1000000000):Pj m=.ok (enc 16 (Mb m),0):=by
 unfold Pj
 rw [Aaz (g:=Kr) (fun a l hl=>by
  unfold Kr Fb
  rw [R.ok_bind,if_pos (by simp only [List.length_singleton]; unfold C2; omega)]
  rfl) m.Log 0 [] (by simp only [List.length_nil]; omega)]
 have key : ∀ g:Int,g=bi m.Granted→Ie m ([]++m.Log.map rv) g=.ok (enc 16 (Mb m),0):=by
  rintro g rfl
  unfold Ie Fb
  simp only [R.ok_bind,List.nil_append]
  show((Ny (Mb m)).bind fun r10=>R.ok (r10.1,r10.2))=_
  rw [Agj (Zg h) hl]
  rfl
 simp only [R.ok_bind]
 cases hg:m.Granted with
 | true=>rw [if_pos rfl]; exact key 1 (by rw [hg]; rfl)
 | false=>rw [if_neg (by simp)]; exact key 0 (by rw [hg]; rfl)
def Oa:Message:={ Kind:=0,From:=0,To:=0,Term:=0,Last:=0,LastTerm:=0,Log:=[],Commit:=0,Match:=0,Granted:=false }
def Q3 (y:Value):Option Record:=match y.L with
 | [p,q]=>if y.Kind=3∧p.Kind=1∧q.Kind=2 then some { Term:=p.N,Data:=Cx q.S } else none
 | _=>none
def L0:List Value→Option (List Record)
 | []=>some []
 | y::r=>match Q3 y with
  | none=>none
  | some a=>match L0 r with
   | none=>none
   | some l=>some (a::l)
def Wx (v:Value):Option Message:=match v.L with
 | [a0,a1,a2,a3,a4,a5,a6,a7,a8,a9]=>
  if v.Kind=3∧a6.Kind=3∧a0.Kind=1∧a1.Kind=1∧a2.Kind=1∧a3.Kind=1∧a4.Kind=1∧a5.Kind=1∧a7.Kind=1∧a8.Kind=1∧a9.Kind=1∧0≤a9.N∧a9.N≤1 then
   match L0 a6.L with
   | none=>none
   | some l=>some { Kind:=a0.N,From:=a1.N,To:=a2.N,Term:=a3.N,Last:=a4.N,LastTerm:=a5.N,Log:=l,Commit:=a7.N,Match:=a8.N,Granted:=(a9.N==1) }
  else none
 | _=>none
def ten (l:List Value):Prop := ∃ a0 a1 a2 a3 a4 a5 a6 a7 a8 a9,l=[a0,a1,a2,a3,a4,a5,a6,a7,a8,a9]
theorem Akj {l:List Value}(h:l.length=10):ten l:=by
 match l,h with
 | [a0,a1,a2,a3,a4,a5,a6,a7,a8,a9],_=>exact⟨a0,a1,a2,a3,a4,a5,a6,a7,a8,a9,rfl⟩
theorem Ade {v:Value}(h:v.L.length≠10):Wx v=none:=by
 unfold Wx
 split
 ·rename_i e
  rw [e] at h
  exact absurd rfl h
 ·rfl
def Qx (b:List Int):Message×Int:=match (Ma b).2 with
 | 0=>(match Wx (Ma b).1 with
  | some m=>(m,0)
  | none=>(Oa,470))
 | e=>(Oa,e)
theorem Aiz {l:List Value}(h:l.length=2) : ∃ p q,l=[p,q]:=by
 match l,h with
 | [p,q],_=>exact⟨p,q,rfl⟩
theorem Ach {y:Value}(h:y.L.length≠2):Q3 y=none:=by
 unfold Q3
 split
 ·rename_i e
  rw [e] at h
  exact absurd rfl h
 ·rfl
theorem Amg {y:Value}{l:List Record}(hs : ∀ q ∈ y.L,q.S.length≤1000000000)(hl:l.length≤1000000000):Gj y l=match Q3 y with
  | none=>.pan Sn
  | some a=>.ok (l++[a]):=by
 unfold Gj
 by_cases h2:y.L.length=2
 ·obtain⟨p,q,e⟩:=Aiz h2
  have hr:Q3 y=if y.Kind=3∧p.Kind=1∧q.Kind=2 then some { Term:=p.N,Data:=Cx q.S } else none:=by unfold Q3; rw [e]
  rw [hr,e]
  simp only [show Cd [p,q] 0=R.ok p from rfl,show Cd [p,q] 1=R.ok q from rfl,R.ok_bind,Adz]
  have hq:q.S.length≤1000000000:=hs q (by rw [e]; simp)
  by_cases c:y.Kind=3∧p.Kind=1∧q.Kind=2
  ·rw [if_pos c]
   obtain⟨c1,c2,c3⟩:=c
   simp only [c1,c2,c3,List.length_cons,List.length_nil,beq_self_eq_true,Bool.and_self,if_true,R.ok_bind,show(((0+1+1:Nat):Int)==2)=true from rfl]
   rw [if_pos (by unfold C2; omega),if_pos (by unfold C2; omega)]
  ·rw [if_neg c]
   have:((y.Kind==3)&&((([p,q]:List Value).length:Int)==2))=(y.Kind==3):=by simp
   rw [this]
   by_cases c1:y.Kind=3
   ·by_cases c2:p.Kind=1
    ·have c3:¬ q.Kind=2:=fun c3=>c ⟨c1,c2,c3⟩
     simp [c1,c2,c3,Sn]
    ·simp [c1,c2,Sn]
   ·simp [c1,Sn]
 ·rw [Ach h2]
  have:((y.Kind==3)&&((y.L.length:Int)==2))=false:=by
   rw [Bool.and_eq_false_iff]
   right
   simp
   omega
  rw [this]
  rfl
theorem Aev : ∀ (ys:List Value) (k:Nat) (l:List Record),(∀ y ∈ ys,∀ q ∈ y.L,q.S.length≤1000000000)→l.length+ys.length≤1000000000→E3 (fun _ a2=>fun l=>Gj a2 l) k ys l=match L0 ys with
  | none=>.pan Sn
  | some r=>.ok (l++r)
 | [],k,l,hs,hl=>by rw [T0]; simp [L0]
 | y::ys,k,l,hs,hl=>by
  simp only [List.length_cons] at hl
  rw [M5,Amg (hs y (List.mem_cons_self ..)) (by omega),L0]
  cases hy:Q3 y with
  | none=>rfl
  | some a=>
   simp only [R.ok_bind]
   rw [Aev ys (k+1) (l++[a]) (fun z hz=>hs z (List.mem_cons_of_mem _ hz)) (by simp only [List.length_append,List.length_singleton]; omega)]
   cases L0 ys with
   | none=>rfl
   | some r=>simp
def Acd:Value→Prop:=fun v => ∀ x ∈ v.L,x.L.length≤1000000000 ∧ ∀ y ∈ x.L,∀ q ∈ y.L,q.S.length≤1000000000
theorem Ry {v:Value}{i:Nat}{a:Value}(h:v.L[i]? = some a):Bg (i:Int) v=if a.Kind=1 then .ok a.N else .pan Sn:=by
 unfold Bg
 rw [T4 h,R.ok_bind,Adz]
 by_cases q:a.Kind=1
 ·rw [if_pos (by simpa using q),if_pos q]; rfl
 ·rw [if_neg (by simpa using q),if_neg q]; rfl
def S3 (o:Option Message):R (Message×Int):=match o with
 | some m=>.ok (m,0)
 | none=>.pan Sn
theorem dem {b:Bool}{α:Type}(f:R α):((Bm b 470).bind fun _=>f)=if b then f else .pan Sn:=by cases b <;> rfl
theorem Ama {b:List Int}(hb:C6 b)(hl:b.length≤1000000000)(hs:Acd (Ma b).1)(h0:(Ma b).2=0):G3 b=S3 (Wx (Ma b).1):=by
 unfold G3
 rw [Adq hb (by omega),R.ok_bind,h0,if_neg (by simp)]
 generalize hv:(Ma b).1=v at hs
 by_cases h10:v.L.length=10
 ·obtain⟨a0,a1,a2,a3,a4,a5,a6,a7,a8,a9,e⟩:=Akj h10
  have hr:Wx v=if v.Kind=3∧a6.Kind=3∧a0.Kind=1∧a1.Kind=1∧a2.Kind=1∧a3.Kind=1∧a4.Kind=1∧a5.Kind=1∧a7.Kind=1∧a8.Kind=1∧a9.Kind=1∧0≤a9.N∧a9.N≤1 then
   (match L0 a6.L with
   | none=>none
   | some l=>some { Kind:=a0.N,From:=a1.N,To:=a2.N,Term:=a3.N,Last:=a4.N,LastTerm:=a5.N,Log:=l,Commit:=a7.N,Match:=a8.N,Granted:=(a9.N==1) }) else none:=by unfold Wx; rw [e]
  have i6:Cd v.L 6=.ok a6:=by rw [e]; rfl
  have hlen:((v.L.length:Int)==10)=true:=by rw [h10]; rfl
  obtain⟨s1,s2⟩:=hs a6 (by rw [e]; simp)
  rw [hr,hlen,Bool.and_true,i6]
  have d0:=Ry (v:=v) (i:=0) (a:=a0) (by rw [e]; rfl)
  have d1:=Ry (v:=v) (i:=1) (a:=a1) (by rw [e]; rfl)
  have d2:=Ry (v:=v) (i:=2) (a:=a2) (by rw [e]; rfl)
  have d3:=Ry (v:=v) (i:=3) (a:=a3) (by rw [e]; rfl)
  have d4:=Ry (v:=v) (i:=4) (a:=a4) (by rw [e]; rfl)
  have d5:=Ry (v:=v) (i:=5) (a:=a5) (by rw [e]; rfl)
  have d7:=Ry (v:=v) (i:=7) (a:=a7) (by rw [e]; rfl)
  have d8:=Ry (v:=v) (i:=8) (a:=a8) (by rw [e]; rfl)
  have d9:=Ry (v:=v) (i:=9) (a:=a9) (by rw [e]; rfl)
  have E : ∀ (c:Prop) [Decidable c] (n:Int) (f:Int→R (Message×Int)),((if c then R.ok n else .pan Sn).bind f)=if c then f n else .pan Sn:=by
   intro c _ n f
   split <;> rfl
  rw [show Bg 0 v=_ from d0,show Bg 1 v=_ from d1,show Bg 2 v=_ from d2,show Bg 3 v=_ from d3,show Bg 4 v=_ from d4,show Bg 5 v=_ from d5,show Bg 7 v=_ from d7,show Bg 8 v=_ from d8,show Bg 9 v=_ from d9]
  simp only [E,R.ok_bind,Akt,dem]
  rw [Aev a6.L 0 [] s2 (by simp only [List.length_nil]; omega)]
  by_cases c:v.Kind=3
  ·by_cases c6:a6.Kind=3
   ·by_cases c0:a0.Kind=1
    ·by_cases c1:a1.Kind=1
     ·by_cases c2:a2.Kind=1
      ·by_cases c3:a3.Kind=1
       ·by_cases c4:a4.Kind=1
        ·by_cases c5:a5.Kind=1
         ·by_cases c7:a7.Kind=1
          ·by_cases c8:a8.Kind=1
           ·by_cases c9:a9.Kind=1
            ·by_cases cn:0≤a9.N∧a9.N≤1
             ·simp only [c,c6,c0,c1,c2,c3,c4,c5,c7,c8,c9,cn.1,cn.2,beq_self_eq_true,if_true,and_self,decide_true,Bool.and_self,R.ok_bind]
              cases L0 a6.L with
              | none=>rfl
              | some l=>rfl
             ·have hb:(decide (0≤a9.N)&&decide (a9.N≤1))=false:=by
               rw [Bool.and_eq_false_iff,decide_eq_false_iff_not,decide_eq_false_iff_not]; omega
              simp only [c,c6,c0,c1,c2,c3,c4,c5,c7,c8,c9,cn,hb,beq_self_eq_true,if_true,if_false,and_false,R.ok_bind,Bool.false_eq_true]
              rfl
            ·simp [c,c6,c0,c1,c2,c3,c4,c5,c7,c8,c9,S3]
           ·simp [c,c6,c0,c1,c2,c3,c4,c5,c7,c8,S3]
          ·simp [c,c6,c0,c1,c2,c3,c4,c5,c7,S3]
         ·simp [c,c6,c0,c1,c2,c3,c4,c5,S3]
        ·simp [c,c6,c0,c1,c2,c3,c4,S3]
       ·simp [c,c6,c0,c1,c2,c3,S3]
      ·simp [c,c6,c0,c1,c2,S3]
     ·simp [c,c6,c0,c1,S3]
    ·simp [c,c6,c0,S3]
   ·simp [c,c6,S3]
  ·simp [c,S3]
 ·rw [Ade h10]
  have:((v.Kind==3)&&((v.L.length:Int)==10))=false:=by
   rw [Bool.and_eq_false_iff]
   right
   simp
   omega
  rw [this]
  rfl
end Rp
end Go.Am
namespace Go.Am
open Go
set_option linter.unusedVariables false
set_option linter.unusedSimpArgs false
namespace Rp
theorem Qi {r:Value×Int}{j:Nat}{a:Value}(h:r.1.L[j]? = some a):Jo r j=if j≠6∧a.Kind≠1 then .ok (.inr (Oa,470)) else .ok (.inl ()):=by
 unfold Jo
 by_cases hj:j=6
 ·subst hj
  rfl
 ·rw [if_pos (by simp; omega),T4 h]
  simp only [R.ok_bind]
  by_cases q:a.Kind=1
  ·rw [if_neg (by simp [q]),if_neg (by simp [q])]
  ·rw [if_pos (by simpa using q),if_pos ⟨hj,q⟩]
   rfl
theorem Ajp {r:Value×Int}{a6:Value}(h6:Cd r.1.L 6=.ok a6)(hs : ∀ y ∈ a6.L,∀ q ∈ y.L,q.S.length≤1000000000)(hl6:a6.L.length≤1000000000) : ∀ (ys:List Value) (k:Nat) (l:List Record),a6.L.drop k=ys→k≤a6.L.length→l.length≤k →
  loop (Eu fun x1 l=>F7 r x1 l) ((k:Int),l)=match L0 ys with
   | none=>.ok (.inr (Oa,470))
   | some rs=>.ok (.inl (l++rs))
 | [],k,l,hd,hk,hl=>by
  have:a6.L.length≤k:=List.drop_eq_nil_iff.1 hd
  have hst:(Eu fun x1 l=>F7 r x1 l) ((k:Int),l)=.ok (.inr (.inl l)):=by
   simp only [Eu,F7]
   rw [h6,R.ok_bind,if_neg (by omega)]
  rw [Lg,hst]
  simp [L0]
 | y::ys,k,l,hd,hk,hl=>by
  have hlt:k<a6.L.length:=by
   rcases Nat.lt_or_ge k a6.L.length with hh | hh
   ·exact hh
   ·rw [List.drop_eq_nil_of_le hh] at hd; cases hd
  have ha:a6.L[k]? = some y:=by
   have:=List.getElem?_drop (xs:=a6.L) (i:=k) (j:=0)
   rw [hd] at this; simpa using this.symm
  have hd':a6.L.drop (k+1)=ys:=by
   have:=congrArg List.tail hd
   simpa using this
  have hw:IntKind.wrap .i64 ((k:Int)+1)=((k+1:Nat):Int):=by rw [F4 (by omega) (by omega)]; omega
  have hsy:=hs y (List.mem_of_getElem? ha)
  have hst:(Eu fun x1 l=>F7 r x1 l) ((k:Int),l)=match Q3 y with
    | none=>.ok (.inr (.inr (Oa,470)))
    | some a=>.ok (.inl (((k+1:Nat):Int),l++[a])):=by
   simp only [Eu,F7]
   rw [h6,R.ok_bind,if_pos (by omega),T4 ha,R.ok_bind]
   by_cases h2:y.L.length=2
   ·obtain⟨p,q,e⟩:=Aiz h2
    have hr:Q3 y=if y.Kind=3∧p.Kind=1∧q.Kind=2 then some { Term:=p.N,Data:=Cx q.S } else none:=by unfold Q3; rw [e]
    rw [hr,e]
    have hq:q.S.length≤1000000000:=hsy q (by rw [e]; simp)
    simp only [show Cd [p,q] 0=R.ok p from rfl,show Cd [p,q] 1=R.ok q from rfl,R.ok_bind]
    by_cases c1:y.Kind=3
    ·by_cases c2:p.Kind=1
     ·by_cases c3:q.Kind=2
      ·simp only [c1,c2,c3,List.length_cons,List.length_nil,bne_self_eq_false,Bool.or_self,Bool.false_eq_true,if_false,R.ok_bind,and_self,if_true,show(((0+1+1:Nat):Int) != 2)=false from rfl]
       rw [if_pos (by unfold C2; omega),if_pos (by unfold C2; omega),hw]
      ·simp [c1,c2,c3,Oa]
     ·simp [c1,c2,Oa]
    ·simp [c1,Oa]
   ·rw [Ach h2,if_pos (by simp; omega)]
    simp [Oa]
  rw [Lg,hst,L0]
  cases hy:Q3 y with
  | none=>rfl
  | some a=>
   simp only [R.ok_bind]
   rw [Ajp h6 hs hl6 ys (k+1) (l++[a]) hd' (by omega) (by simp only [List.length_append,List.length_singleton]; omega)]
   cases L0 ys with
   | none=>rfl
   | some rs=>simp
theorem Alg {b:List Int}(hb:C6 b)(hl:b.length≤1000000000)(hs:Acd (Ma b).1):Pk b=.ok (Qx b):=by
 unfold Pk Qx
 rw [Aic hb hl,R.ok_bind]
 by_cases h0:(Ma b).2=0
 ·rw [h0,if_neg (by simp)]
  simp only
  generalize hv:Ma b=r at hs
  by_cases h10:r.1.L.length=10
  ·obtain⟨a0,a1,a2,a3,a4,a5,a6,a7,a8,a9,e⟩:=Akj h10
   have hr:Wx r.1=if r.1.Kind=3∧a6.Kind=3∧a0.Kind=1∧a1.Kind=1∧a2.Kind=1∧a3.Kind=1∧a4.Kind=1∧a5.Kind=1∧a7.Kind=1∧a8.Kind=1∧a9.Kind=1∧0≤a9.N∧a9.N≤1 then
    (match L0 a6.L with
    | none=>none
    | some l=>some { Kind:=a0.N,From:=a1.N,To:=a2.N,Term:=a3.N,Last:=a4.N,LastTerm:=a5.N,Log:=l,Commit:=a7.N,Match:=a8.N,Granted:=(a9.N==1) }) else none:=by
    unfold Wx
    rw [e]
    try rfl
   obtain⟨s1,s2⟩:=hs a6 (by rw [e]; simp)
   have hlen:((r.1.L.length:Int) != 10)=false:=by rw [h10]; rfl
   have i0:Cd r.1.L 0=.ok a0:=by rw [e]; rfl
   have i1:Cd r.1.L 1=.ok a1:=by rw [e]; rfl
   have i2:Cd r.1.L 2=.ok a2:=by rw [e]; rfl
   have i3:Cd r.1.L 3=.ok a3:=by rw [e]; rfl
   have i4:Cd r.1.L 4=.ok a4:=by rw [e]; rfl
   have i5:Cd r.1.L 5=.ok a5:=by rw [e]; rfl
   have i6:Cd r.1.L 6=.ok a6:=by rw [e]; rfl
   have i7:Cd r.1.L 7=.ok a7:=by rw [e]; rfl
   have i8:Cd r.1.L 8=.ok a8:=by rw [e]; rfl
   have i9:Cd r.1.L 9=.ok a9:=by rw [e]; rfl
   have b0:=Qi (r:=r) (j:=0) (a:=a0) (by rw [e]; rfl)
   have b1:=Qi (r:=r) (j:=1) (a:=a1) (by rw [e]; rfl)
   have b2:=Qi (r:=r) (j:=2) (a:=a2) (by rw [e]; rfl)
   have b3:=Qi (r:=r) (j:=3) (a:=a3) (by rw [e]; rfl)
   have b4:=Qi (r:=r) (j:=4) (a:=a4) (by rw [e]; rfl)
   have b5:=Qi (r:=r) (j:=5) (a:=a5) (by rw [e]; rfl)
   have b6:=Qi (r:=r) (j:=6) (a:=a6) (by rw [e]; rfl)
   have b7:=Qi (r:=r) (j:=7) (a:=a7) (by rw [e]; rfl)
   have b8:=Qi (r:=r) (j:=8) (a:=a8) (by rw [e]; rfl)
   have b9:=Qi (r:=r) (j:=9) (a:=a9) (by rw [e]; rfl)
   have hloop:=Ajp i6 s2 s1 a6.L 0 [] rfl (by omega) (by simp)
   rw [hr,hlen,Bool.or_false,i6]
   have hrange:List.range 10=[0,1,2,3,4,5,6,7,8,9]:=by decide
   rw [hrange]
   simp only [N1,Ak8,Nat.zero_add,Nat.reduceAdd,b0,b1,b2,b3,b4,b5,b6,b7,b8,b9,R.ok_bind]
   by_cases c:r.1.Kind=3
   ·by_cases c6:a6.Kind=3
    ·by_cases c0:a0.Kind=1
     ·by_cases c1:a1.Kind=1
      ·by_cases c2:a2.Kind=1
       ·by_cases c3:a3.Kind=1
        ·by_cases c4:a4.Kind=1
         ·by_cases c5:a5.Kind=1
          ·by_cases c7:a7.Kind=1
           ·by_cases c8:a8.Kind=1
            ·by_cases c9:a9.Kind=1
             ·simp only [c,c6,c0,c1,c2,c3,c4,c5,c7,c8,c9,bne_self_eq_false,Bool.false_eq_true,if_false,R.ok_bind,ne_eq,not_true_eq_false,and_false,G9,i0,i1,i2,i3,i4,i5,i7,i8,i9,Nn]
              by_cases cn:0≤a9.N∧a9.N≤1
              ·simp only [cn.1,cn.2,decide_true,Bool.and_self,if_true,and_self]
               rw [show(((0:Int),([]:List Record)):Int×List Record)=(((0:Nat):Int),[]) from rfl,hloop]
               cases L0 a6.L with
               | none=>rfl
               | some l=>rfl
              ·have hb:(decide (0≤a9.N)&&decide (a9.N≤1))=false:=by
                rw [Bool.and_eq_false_iff,decide_eq_false_iff_not,decide_eq_false_iff_not]; omega
               simp only [cn,hb,Bool.false_eq_true,if_false,and_false]
               rfl
             ·simp [c,c6,c0,c1,c2,c3,c4,c5,c7,c8,c9,G9]
            ·simp [c,c6,c0,c1,c2,c3,c4,c5,c7,c8,G9]
           ·simp [c,c6,c0,c1,c2,c3,c4,c5,c7,G9]
          ·simp [c,c6,c0,c1,c2,c3,c4,c5,G9]
         ·simp [c,c6,c0,c1,c2,c3,c4,G9]
        ·simp [c,c6,c0,c1,c2,c3,G9]
       ·simp [c,c6,c0,c1,c2,G9]
      ·simp [c,c6,c0,c1,G9]
     ·simp [c,c6,c0,G9]
    ·simp [c,c6,Oa]
   ·simp [c,Oa]
  ·rw [Ade h10,if_pos (by simp; omega)]
   rfl
 ·rw [if_pos (by simpa using h0)]
  split
  ·rename_i q
   exact absurd q h0
  ·rfl
theorem Af7 {b:List Int}(hb:C6 b)(hl:b.length≤1000000000)(hs:Acd (Ma b).1):Hx b=.ok (Qx b):=by
 unfold Hx Qx
 by_cases h0:(Ma b).2=0
 ·rw [Ama hb hl hs h0,h0]
  cases Wx (Ma b).1 with
  | none=>rfl
  | some m=>rfl
 ·have e:G3 b=.ok (Oa,(Ma b).2):=by
   unfold G3
   rw [Adq hb (by omega),R.ok_bind,if_pos (by simpa using h0)]
   rfl
  rw [e]
  split
  ·rename_i q
   exact absurd q h0
  ·rfl
theorem Ajm {l:List Record}(h : ∀ a ∈ l,C6 a.Data):L0 (l.map rv)=some l:=by
 induction l with
 | nil=>rfl
 | cons a l ih=>
  have e:Q3 (rv a)=some a:=by
   unfold Q3 rv
   simp only [iv]
   rw [if_pos ⟨trivial,trivial,trivial⟩,Y3 (h a (List.mem_cons_self ..))]
  rw [List.map_cons,L0,e]
  simp only
  rw [ih fun x hx=>h x (List.mem_cons_of_mem _ hx)]
theorem Aky {m:Message}(h:MI m):Wx (Mb m)=some m:=by
 unfold Wx Mb
 simp only [iv,lv]
 have h1:0≤bi m.Granted∧bi m.Granted≤1:=by unfold bi; split <;> omega
 rw [if_pos ⟨trivial,trivial,trivial,trivial,trivial,trivial,trivial,trivial,trivial,trivial,trivial,h1.1,h1.2⟩,Ajm fun a ha=>(h.log a ha).2]
 simp only
 congr 1
 cases m
 simp only [Message.mk.injEq,true_and]
 unfold bi
 rename_i g
 cases g <;> rfl
theorem Sk {d:Nat}{v:Value}(h:Wf d v)(hk:v.Kind=1):v=iv v.N∧Kp v.N:=by
 have leaf:Q2 v→v=iv v.N∧Kp v.N:=by
  rintro(⟨h1,h2,h3,h4⟩ | ⟨h1,_,_⟩)
  ·refine⟨?_,h4⟩
   obtain⟨k,n,s,l⟩:=v
   simp only at h1 h2 h3
   subst h1 h2 h3
   rfl
  ·omega
 cases d with
 | zero=>exact leaf h
 | succ d=>
  rcases h with h | ⟨h1,_,_,_⟩
  ·exact leaf h
  ·omega
theorem Aer (s:Vj):C6 (Cx s):=by
 intro b hb
 obtain⟨x,_,rfl⟩:=List.mem_map.1 hb
 have:=x.toNat_lt
 show 0≤(x.toNat:Int)∧(x.toNat:Int)<256
 omega
theorem Akc {d:Nat}{y:Value}{a:Record}(hw:Wf (d+1) y)(h:Q3 y=some a):y=rv a∧Kp a.Term∧C6 a.Data:=by
 obtain⟨k,n,s,l⟩:=y
 unfold Q3 at h
 simp only at h
 split at h
 ·rename_i p q
  split at h
  ·rename_i hc
   obtain⟨c1,c2,c3⟩:=hc
   cases h
   subst c1
   rcases hw with hw | ⟨_,h2,h3,h4⟩
   ·rcases hw with hw | hw <;> exact absurd hw.1 (by show ¬ (3:Int)=_; decide)
   ·simp only at h2 h3 h4
    subst h2 h3
    obtain⟨p1,p2⟩:=Sk (h4 p (by simp)) c2
    have hq:q={ Kind:=2,N:=0,S:=q.S,L:=[] }:=by
     have hq:=h4 q (by simp)
     have leaf:Q2 q→q={ Kind:=2,N:=0,S:=q.S,L:=[] }:=by
      rintro(⟨h1,_,_,_⟩ | ⟨h1,h2,h3⟩)
      ·omega
      ·obtain⟨k,n,s,l⟩:=q
       simp only at h1 h2 h3
       subst h1 h2 h3
       rfl
     cases d with
     | zero=>exact leaf hq
     | succ d=>
      rcases hq with hq | ⟨h1,_,_,_⟩
      ·exact leaf hq
      ·omega
    refine⟨?_,p2,Aer _⟩
    unfold rv
    rw [Yb]
    simp only
    rw [← p1,← hq]
  ·cases h
 ·cases h
theorem Ab1 {d:Nat} : ∀ (ys:List Value) (l:List Record),(∀ y ∈ ys,Wf (d+1) y)→L0 ys=some l→ys=l.map rv ∧ ∀ a ∈ l,Kp a.Term∧C6 a.Data
 | [],l,hw,h=>by cases h; exact⟨rfl,fun a ha=>by cases ha⟩
 | y::ys,l,hw,h=>by
  rw [L0] at h
  split at h
  ·cases h
  ·rename_i a ha
   split at h
   ·cases h
   ·rename_i l' hl'
    cases h
    obtain⟨e1,e2,e3⟩:=Akc (hw y (List.mem_cons_self ..)) ha
    obtain⟨e4,e5⟩:=Ab1 ys l' (fun z hz=>hw z (List.mem_cons_of_mem _ hz)) hl'
    refine⟨by rw [List.map_cons,← e1,← e4],fun x hx=>?_⟩
    rcases List.mem_cons.1 hx with rfl | q
    ·exact⟨e2,e3⟩
    ·exact e5 x q
theorem Alx {v:Value}{m:Message}(hw:Wf 16 v)(h:Wx v=some m):v=Mb m∧MI m:=by
 obtain⟨k,n,s,l⟩:=v
 unfold Wx at h
 simp only at h
 split at h
 ·rename_i a0 a1 a2 a3 a4 a5 a6 a7 a8 a9
  split at h
  ·rename_i hc
   obtain⟨c,c6,c0,c1,c2,c3,c4,c5,c7,c8,c9,n0,n1⟩:=hc
   split at h
   ·cases h
   ·rename_i lg hlg
    cases h
    subst c
    rcases hw with hw | ⟨_,h2,h3,h4⟩
    ·rcases hw with hw | hw <;> exact absurd hw.1 (by show ¬ (3:Int)=_; decide)
    ·simp only at h2 h3 h4
     subst h2 h3
     obtain⟨e0,f0⟩:=Sk (h4 a0 (by simp)) c0
     obtain⟨e1,f1⟩:=Sk (h4 a1 (by simp)) c1
     obtain⟨e2,f2⟩:=Sk (h4 a2 (by simp)) c2
     obtain⟨e3,f3⟩:=Sk (h4 a3 (by simp)) c3
     obtain⟨e4,f4⟩:=Sk (h4 a4 (by simp)) c4
     obtain⟨e5,f5⟩:=Sk (h4 a5 (by simp)) c5
     obtain⟨e7,f7⟩:=Sk (h4 a7 (by simp)) c7
     obtain⟨e8,f8⟩:=Sk (h4 a8 (by simp)) c8
     obtain⟨e9,f9⟩:=Sk (h4 a9 (by simp)) c9
     have hw6:=h4 a6 (by simp)
     obtain⟨k6,n6,s6,l6⟩:=a6
     simp only at c6 hlg
     subst c6
     rcases hw6 with hw6 | ⟨_,g2,g3,g4⟩
     ·rcases hw6 with hw6 | hw6 <;> exact absurd hw6.1 (by show ¬ (3:Int)=_; decide)
     ·simp only at g2 g3 g4
      subst g2 g3
      obtain⟨e6,f6⟩:=Ab1 (d:=13) l6 lg g4 hlg
      refine⟨?_,⟨f0,f1,f2,f3,f4,f5,f7,f8,f6⟩⟩
      unfold Mb lv
      have hg:bi (a9.N==1)=a9.N:=by
       unfold bi
       by_cases q:a9.N=1
       ·rw [if_pos (by simpa using q),q]
       ·rw [if_neg (by simpa using q)]; omega
      simp only [hg]
      rw [← e0,← e1,← e2,← e3,← e4,← e5,← e7,← e8,← e9,← e6]
  ·cases h
 ·cases h
theorem Afn {v:Value}(h:Wf 16 v)(hl:(enc 16 v).length≤1000000000):Acd v:=by
 have leafS : ∀ {d:Nat} {q:Value},Wf d q→(enc d q).length≤1000000000→q.S.length≤1000000000:=by
  intro d q hq hl
  have leaf:Q2 q→q.S.length≤1000000000:=by
   intro h
   rw [Pm h] at hl
   rcases h with⟨_,h2,_⟩ | ⟨h1,_,_⟩
   ·rw [h2]; simp
   ·unfold Kz at hl
    rw [if_neg (by omega)] at hl
    simp only [List.length_cons,List.length_append,Kb] at hl
    omega
  cases d with
  | zero=>exact leaf hq
  | succ d=>
   rcases hq with h | ⟨_,_,h3,_⟩
   ·exact leaf h
   ·rw [h3]; simp
 have kids : ∀ {d:Nat} {q:Value},Wf (d+1) q→(enc (d+1) q).length≤1000000000→q.L.length≤1000000000 ∧ ∀ x ∈ q.L,Wf d x∧(enc d x).length≤1000000000:=by
  intro d q hq hl
  rcases hq with h | ⟨h1,_,_,h4⟩
  ·have:q.L=[]:=by rcases h with h | h; exact h.2.2.1; exact h.2.2
   rw [this]
   exact⟨by simp,fun x hx=>by cases hx⟩
  ·rw [Pe h1] at hl
   simp only [List.length_cons,List.length_append] at hl
   have:=Ua (d:=d) q.L
   exact⟨by omega,fun x hx=>⟨h4 x hx,by have:=Ac5 (d:=d) hx; omega⟩⟩
 intro x hx
 obtain⟨_,k1⟩:=kids h hl
 obtain⟨w1,w2⟩:=k1 x hx
 obtain⟨l1,k2⟩:=kids w1 w2
 refine⟨l1,fun y hy q hq=>?_⟩
 obtain⟨w3,w4⟩:=k2 y hy
 obtain⟨_,k3⟩:=kids w3 w4
 obtain⟨w5,w6⟩:=k3 q hq
 exact leafS w5 w6
theorem Xa {b:List Int}(hb:C6 b)(hl:b.length≤1000000000):Acd (Ma b).1:=by
 unfold Ma
 split
 ·rename_i v hv
  obtain⟨w1,w2⟩:=Aa1 16 b v [] hb hv
  rw [List.append_nil] at w2
  exact Afn w1 (by rw [← w2]; exact hl)
 ·intro x hx; cases hx
theorem Ai7 {m:Message}(h:MI m)(hl:(enc 16 (Mb m)).length≤1000000000):Qx (enc 16 (Mb m))=(m,0):=by
 have e:Ma (enc 16 (Mb m))=(Mb m,0):=by
  unfold Ma
  have:=Aht 16 (Mb m) [] (Zg h) (by omega)
  rw [List.append_nil] at this
  rw [this]
 unfold Qx
 rw [e]
 simp only [Aky h]
theorem Aj9 {b:List Int}{m:Message}(hb:C6 b)(h:Qx b=(m,0)):b=enc 16 (Mb m)∧MI m:=by
 unfold Qx at h
 split at h
 ·rename_i h0
  split at h
  ·rename_i m' hm
   cases h
   unfold Ma at h0 hm
   split at h0
   ·rename_i v hv
    rw [hv] at hm
    obtain⟨w1,w2⟩:=Aa1 16 b v [] hb hv
    obtain⟨p1,p2⟩:=Alx w1 hm
    rw [List.append_nil] at w2
    exact⟨by rw [← p1]; exact w2,p2⟩
   ·exact absurd h0 (by show ¬ (10:Int)=0; decide)
  ·have:=congrArg Prod.snd h
   exact absurd this (by show ¬ (470:Int)=0; decide)
 ·rename_i h0
  have:=congrArg Prod.snd h
  exact absurd this h0
theorem Ake {b:List Int}(h:(Qx b).2≠0):(Qx b).1=Oa:=by
 unfold Qx at h ⊢
 split
 ·rename_i h0
  rw [h0] at h
  simp only at h
  split
  ·rename_i m hm
   rw [hm] at h
   exact absurd rfl h
  ·rfl
 ·rfl
theorem Aj5 : ∀ (d:Nat) (v:Value),C6 (enc d v):=by
 have leaf : ∀ v,C6 (Kz v):=by
  intro v
  unfold Kz
  split
  ·intro b hb
   rcases List.mem_cons.1 hb with rfl | q
   ·omega
   ·exact Yz _ b q
  ·intro b hb
   rcases List.mem_cons.1 hb with rfl | q
   ·omega
   ·rcases List.mem_append.1 q with q | q
    ·exact Yz _ b q
    ·exact Aer _ b q
 intro d
 induction d with
 | zero=>exact leaf
 | succ d ih=>
  intro v
  show C6 (if v.Kind=3 then _ else _)
  split
  ·intro b hb
   rcases List.mem_cons.1 hb with rfl | q
   ·omega
   ·rcases List.mem_append.1 q with q | q
    ·exact Yz _ b q
    ·obtain⟨l,hl,hbl⟩:=List.mem_flatten.1 q
     obtain⟨x,_,rfl⟩:=List.mem_map.1 hl
     exact ih x b hbl
  ·exact leaf v
theorem Ado (m:Message):Ez m m=.ok true:=by
 have h1:Pr m.Log m.Log=.ok true:=by
  unfold Pr
  rw [if_neg (by omega),Aai m.Log 0 fun j x hx=>?_]
  ·rfl
  ·simp only [Ml,Tl,Nat.zero_add,T4 hx,R.ok_bind,beq_self_eq_true,Bool.and_self,if_true]
 unfold Ez
 simp only [beq_self_eq_true,Bool.and_self,if_true,h1,R.ok_bind]
theorem Alj {l:List Record}(h:Pp l=.ok true):l.length≤20 ∧ ∀ a ∈ l,a.Data.length≤100:=by
 unfold Pp at h
 rw [Aan (p:=fun a=>decide ((a.Data.length:Int) > 100)) false l 0 fun j a _=>by simp only [Nq,decide_eq_true_eq]] at h
 simp only [R.ok_bind] at h
 cases ha:l.any (fun a=>decide ((a.Data.length:Int) > 100)) with
 | true=>
  rw [ha] at h
  cases h
 | false=>
  rw [ha] at h
  have h2:decide ((l.length:Int)≤20)=true:=R.ok.inj h
  refine⟨by have:=of_decide_eq_true h2; omega,fun a hm=>?_⟩
  have:=List.any_eq_false.1 ha a hm
  simp at this
  omega
end Rp
open Rp in
theorem law_ReplicaCodeSpec : L1 := by
 intro m raw hm hraw hb
 have i64 : ∀ n : Int, (G0 .i64).good n → Kp n := by
  intro n hn
  have h2 : (Lit.int .i64 n).wf = true := hn
  unfold Kp
  simpa [Lit.wf, IntKind.min, IntKind.max, IntKind.signed, IntKind.bits] using h2
 have byt : ∀ l : List Int, (Ve 1 (G0 .u8)).good l → C6 l := by
  intro l hl b hb
  have h2 : (Lit.int .u8 b).wf = true := hl b hb
  have : 0 ≤ b ∧ b ≤ 255 := by simpa [Lit.wf, IntKind.min, IntKind.max, IntKind.signed, IntKind.bits] using h2
  omega
 obtain ⟨g1, g2, g3, g4, g5, g6, g7, g8, g9, _⟩ := hm
 have hMI : MI m := ⟨i64 _ g1, i64 _ g2, i64 _ g3, i64 _ g4, i64 _ g5, i64 _ g6, i64 _ g8, i64 _ g9, fun a ha => by
  have h1 : T9.good a := g7 a ha
  exact ⟨i64 _ h1.1, byt _ h1.2.1⟩⟩
 have hbr := byt raw hraw
 unfold Kq
 rw [Ad5, R.ok_bind, if_pos rfl]
 obtain ⟨f, ef⟩ := Ano m.Log
 rw [ef, R.ok_bind]
 split
 ·rfl
 ·rename_i hc
  simp only [Bool.or_eq_true, Bool.not_eq_true', decide_eq_true_eq, not_or, Bool.not_eq_false] at hc
  obtain ⟨c1, c2⟩ := hc
  subst c1
  obtain ⟨f1, f2⟩ := Alj ef
  have hlen := Akv hMI f1 f2
  have hrl : raw.length ≤ 2000 := by omega
  have hbe := Aj5 16 (Mb m)
  rw [Afv hMI (by omega) (by omega), Ai5 hMI (by omega) (by omega)]
  simp only [R.ok_bind]
  rw [Af7 hbe (by omega) (Xa hbe (by omega)), Ai7 hMI (by omega), Af7 hbr (by omega) (Xa hbr (by omega)), Alg hbr (by omega) (Xa hbr (by omega))]
  simp only [R.ok_bind, beq_self_eq_true, bne_self_eq_false, Bool.not_true, Bool.or_self, Bool.false_eq_true, if_false, Ado]
  by_cases h0 : (Qx raw).2 = 0
  ·rw [if_neg (by simpa using h0)]
   obtain ⟨e1, e2⟩ := Aj9 (m := (Qx raw).1) hbr (by rw [← h0])
   have hlog : (Qx raw).1.Log.length ≤ 1000000000 := by
    have h1 := Afn (Zg e2) (by rw [← e1]; omega)
    have := (h1 (lv (Qx raw).1.Log) (by unfold Mb; simp)).1
    unfold lv at this
    simpa using this
   rw [Afv e2 (by rw [← e1]; omega) hlog, R.ok_bind, ← e1]
   simp
  ·rw [if_pos (by simpa using h0), Ake h0]
   show ((Ez Oa Oa).bind fun r9 => R.ok r9) = _
   rw [Ado]
   rfl
end Go.Am
namespace Go.Proofs
open Go.Shelf
def Try.laysSlM5_f92_ren:Go.Shelf.Ren:=⟨fun | 5=>92 | 8=>97 | 7=>96 | 19=>107 | 20=>108 | 10=>98 | 11=>99 | 12=>100 | 13=>101 | 14=>102 | 15=>103 | 16=>104 | 17=>105 | 18=>106 | 30=>109 | 31=>110 | 32=>111 | 33=>112 | 34=>113 | 35=>114 | 40=>115 | n=>n,fun | 23=>48 | 25=>3 | 3=>3 | 32=>140 | 22=>48 | 0=>0 | 44=>153 | 46=>125 | 4=>4 | 36=>146 | 35=>145 | 41=>120 | 5=>5 | 9=>9 | 53=>154 | 57=>157 | 63=>159 | 64=>160 | n=>n,fun | n=>n⟩
theorem Try.laysSlM5_f92:Go.Proofs.SlLaysM.n5 Try.prog Try.laysSlM5_f92_ren:={
 mixed:=by kernel_rfl
 f5:=⟨Try.f92.name,by decide,Try.func92.trans (congrArg some (by kernel_rfl))⟩
 f7:=⟨Try.f96.name,by decide,Try.func96.trans (congrArg some (by kernel_rfl))⟩
 f8:=Try.func97.trans (congrArg some (by kernel_rfl))
 f10:=⟨Try.f98.name,by decide,Try.func98.trans (congrArg some (by kernel_rfl))⟩
 f11:=⟨Try.f99.name,by decide,Try.func99.trans (congrArg some (by kernel_rfl))⟩
 f12:=⟨Try.f100.name,by decide,Try.func100.trans (congrArg some (by kernel_rfl))⟩
 f13:=⟨Try.f101.name,by decide,Try.func101.trans (congrArg some (by kernel_rfl))⟩
 f14:=⟨Try.f102.name,by decide,Try.func102.trans (congrArg some (by kernel_rfl))⟩
 f15:=⟨Try.f103.name,by decide,Try.func103.trans (congrArg some (by kernel_rfl))⟩
 f16:=⟨Try.f104.name,by decide,Try.func104.trans (congrArg some (by kernel_rfl))⟩
 f17:=⟨Try.f105.name,by decide,Try.func105.trans (congrArg some (by kernel_rfl))⟩
 f18:=⟨Try.f106.name,by decide,Try.func106.trans (congrArg some (by kernel_rfl))⟩
 f19:=Try.func107.trans (congrArg some (by kernel_rfl))
 f20:=Try.func108.trans (congrArg some (by kernel_rfl))
 f30:=⟨Try.f109.name,by decide,Try.func109.trans (congrArg some (by kernel_rfl))⟩
 f31:=Try.func110.trans (congrArg some (by kernel_rfl))
 f32:=Try.func111.trans (congrArg some (by kernel_rfl))
 f33:=⟨Try.f112.name,by decide,Try.func112.trans (congrArg some (by kernel_rfl))⟩
 f34:=⟨Try.f113.name,by decide,Try.func113.trans (congrArg some (by kernel_rfl))⟩
 f35:=⟨Try.f114.name,by decide,Try.func114.trans (congrArg some (by kernel_rfl))⟩
 f40:=⟨Try.f115.name,by decide,Try.func115.trans (congrArg some (by kernel_rfl))⟩
 t0:=Try.underlying0
 a0:=Try.isAgg0
 z0:=Try.sizeOf0
 v0:=Try.zeroValue0
 t3:=Try.underlying3
 a3:=Try.isAgg3
 z3:=Try.sizeOf3
 v3:=Try.zeroValue3
 t4:=Try.underlying4
 a4:=Try.isAgg4
 z4:=Try.sizeOf4
 v4:=Try.zeroValue4
 t5:=Try.underlying5
 a5:=Try.isAgg5
 z5:=Try.sizeOf5
 v5:=Try.zeroValue5
 t9:=Try.underlying9
 a9:=Try.isAgg9
 z9:=Try.sizeOf9
 v9:=Try.zeroValue9
 t22:=Try.underlying48
 a22:=Try.isAgg48
 z22:=Try.sizeOf48
 v22:=Try.zeroValue48
 t23:=Try.underlying48
 a23:=Try.isAgg48
 z23:=Try.sizeOf48
 v23:=Try.zeroValue48
 t25:=Try.underlying3
 a25:=Try.isAgg3
 z25:=Try.sizeOf3
 v25:=Try.zeroValue3
 t32:=Try.underlying140
 a32:=Try.isAgg140
 z32:=Try.sizeOf140
 v32:=Try.zeroValue140
 t35:=Try.underlying145
 a35:=Try.isAgg145
 z35:=Try.sizeOf145
 v35:=Try.zeroValue145
 t36:=Try.underlying146
 a36:=Try.isAgg146
 z36:=Try.sizeOf146
 v36:=Try.zeroValue146
 t41:=Try.underlying120
 a41:=Try.isAgg120
 z41:=Try.sizeOf120
 v41:=Try.zeroValue120
 t44:=Try.underlying153
 a44:=Try.isAgg153
 z44:=Try.sizeOf153
 v44:=Try.zeroValue153
 t46:=Try.underlying125
 a46:=Try.isAgg125
 z46:=Try.sizeOf125
 v46:=Try.zeroValue125
 t53:=Try.underlying154
 a53:=Try.isAgg154
 z53:=Try.sizeOf154
 v53:=Try.zeroValue154
 t57:=Try.underlying157
 a57:=Try.isAgg157
 z57:=Try.sizeOf157
 v57:=Try.zeroValue157
 t63:=Try.underlying159
 a63:=Try.isAgg159
 z63:=Try.sizeOf159
 v63:=Try.zeroValue159
 t64:=Try.underlying160
 a64:=Try.isAgg160
 z64:=Try.sizeOf160
 v64:=Try.zeroValue160 }
open Go.Sort Go.RowKit in
theorem Try.slices_Sort_int (blk off cap : Nat) (zs : List Int) (w : World) (hH : Holds (Value.int .i64) w blk off zs.toArray) (hblk : blk < w.heap.size) (hsz : zs.length < 4611686018427387904) :
  Calls Try.prog 92 #[.slice (some ⟨blk, off, none⟩) zs.length cap] w fun e w' =>
   e = .returned (.tuple #[]) ∧ ∃ n os, w' = grow (putRow (Value.int .i64) (Sort.ahead w n) blk off (zs.mergeSort fun x y => decide (x ≤ y)).toArray) os := AnyM.slices_Sort_int Try.laysSlM5_f92 blk off cap zs w hH hblk hsz
open Go.RowKit Go.Sort in
theorem Try.slices_Sort_int_none (p : Option Addr) (cap : Nat) (w : World) :
  Calls Try.prog 92 #[.slice p 0 cap] w fun e w' => e = .returned (.tuple #[]) ∧ w' = w := AnyM.slices_Sort_int_none Try.laysSlM5_f92 p cap w
end Go.Proofs
namespace Go.Am
open Go Go.Proofs
set_option linter.unusedVariables false
set_option linter.unusedSimpArgs false
instance gwI:GW Try.prog:={ n:=0,G:=fun _ _=>True,keep:=fun _ _ _=>trivial }
theorem Da:Try.prog.follows .mixedOrders=true:=by kernel_rfl
theorem Aq:ti Try.prog 3=some ⟨.int .i64,1,8,[.int .i64 0]⟩:=by kernel_rfl
theorem Hf:ti Try.prog 4=some ⟨.bool,1,1,[.bool false]⟩:=by kernel_rfl
theorem E7:ti Try.prog 5=some ⟨.int .u8,1,1,[.int .u8 0]⟩:=by kernel_rfl
theorem Ep:ti Try.prog 9=some ⟨.str,1,16,[.str []]⟩:=by kernel_rfl
theorem Aif:ti Try.prog 20=some ⟨.ifc,1,16,[.nili]⟩:=by kernel_rfl
theorem Bu:ti Try.prog 22=some ⟨.sl 54,1,24,[.emp]⟩:=by kernel_rfl
theorem Bf:ti Try.prog 24=some ⟨.st [(0,3),(1,3),(2,3),(3,3),(4,3),(5,3),(6,22),(7,3),(8,3),(9,4)],10,96,[.int .i64 0,.int .i64 0,.int .i64 0,.int .i64 0,.int .i64 0,.int .i64 0,.emp,.int .i64 0,.int .i64 0,.bool false]⟩:=by kernel_rfl
theorem Ci:ti Try.prog 25=some ⟨.sl 5,1,24,[.emp]⟩:=by kernel_rfl
theorem Hg:ti Try.prog 28=some ⟨.int .i64,1,8,[.int .i64 0]⟩:=by kernel_rfl
theorem C7:ti Try.prog 37=some ⟨.sl 24,1,24,[.emp]⟩:=by kernel_rfl
theorem Acq:ti Try.prog 42=some ⟨.sl 25,1,24,[.emp]⟩:=by kernel_rfl
theorem Dm:ti Try.prog 47=some ⟨.sl 4,1,24,[.emp]⟩:=by kernel_rfl
theorem Cm:ti Try.prog 48=some ⟨.sl 3,1,24,[.emp]⟩:=by kernel_rfl
theorem As:ti Try.prog 50=some ⟨.st [(0,3),(1,3),(2,3),(3,3),(4,22),(5,3),(6,3),(7,47),(8,48)],9,120,[.int .i64 0,.int .i64 0,.int .i64 0,.int .i64 0,.emp,.int .i64 0,.int .i64 0,.emp,.emp]⟩:=by kernel_rfl
theorem Ds:ti Try.prog 54=some ⟨.st [(0,3),(1,25)],2,32,[.int .i64 0,.emp]⟩:=by kernel_rfl
theorem Bj:ti Try.prog 71=some ⟨.sl 73,1,24,[.emp]⟩:=by kernel_rfl
theorem A2:ti Try.prog 73=some ⟨.st [(0,3),(1,3),(2,9),(3,71)],4,56,[.int .i64 0,.int .i64 0,.str [],.emp]⟩:=by kernel_rfl
theorem Bd:ti Try.prog 88=some ⟨.st [(0,50),(9,37)],10,144,[.int .i64 0,.int .i64 0,.int .i64 0,.int .i64 0,.emp,.int .i64 0,.int .i64 0,.emp,.emp,.emp]⟩:=by kernel_rfl
theorem Vw:ti Try.prog 89=some ⟨.fn,1,8,[.nilf]⟩:=by kernel_rfl
theorem Aav:ti Try.prog 90=some ⟨.arr 5 89,5,40,[.nilf,.nilf,.nilf,.nilf,.nilf]⟩:=by kernel_rfl
theorem Ana:ti Try.prog 92=some ⟨.st [(0,90)],5,40,[.nilf,.nilf,.nilf,.nilf,.nilf]⟩:=by kernel_rfl
theorem Jf:ti Try.prog 98=some ⟨.fn,1,8,[.nilf]⟩:=by kernel_rfl
theorem Gx:ti Try.prog 100=some ⟨.st [(0,98)],1,8,[.nilf]⟩:=by kernel_rfl
theorem Aed:ti Try.prog 101=some ⟨.ptr 123,1,8,[.nilp]⟩:=by kernel_rfl
theorem Aia:ti Try.prog 105=some ⟨.st [(0,28)],1,8,[.int .i64 0]⟩:=by kernel_rfl
theorem Oj:ti Try.prog 112=some ⟨.st [(0,25),(1,3),(2,4)],3,40,[.emp,.int .i64 0,.bool false]⟩:=by kernel_rfl
theorem M9:ti Try.prog 123=some ⟨.arr 4 100,4,32,[.nilf,.nilf,.nilf,.nilf]⟩:=by kernel_rfl
theorem Gk:ti Try.prog 125=some ⟨.int .u64,1,8,[.int .u64 0]⟩:=by kernel_rfl
theorem Ad9:ti Try.prog 139=some ⟨.arr 4 4,4,4,[.bool false,.bool false,.bool false,.bool false]⟩:=by kernel_rfl
theorem Uc:Oz Try.prog [(0,3),(1,3),(2,3),(3,3),(4,3),(5,3),(6,22),(7,3),(8,3),(9,4)]=some [(0,1),(1,1),(2,1),(3,1),(4,1),(5,1),(6,1),(7,1),(8,1),(9,1)]:=by kernel_rfl
theorem Aoo:Oz Try.prog [(0,3),(1,3),(2,3),(3,3),(4,22),(5,3),(6,3),(7,47),(8,48)]=some [(0,1),(1,1),(2,1),(3,1),(4,1),(5,1),(6,1),(7,1),(8,1)]:=by kernel_rfl
theorem Acs:Oz Try.prog [(0,3),(1,25)]=some [(0,1),(1,1)]:=by kernel_rfl
theorem N7:Oz Try.prog [(0,3),(1,3),(2,9),(3,71)]=some [(0,1),(1,1),(2,1),(3,1)]:=by kernel_rfl
end Go.Am
namespace Go.Am
open Go Go.Proofs
set_option maxRecDepth 100000
set_option maxHeartbeats 4000000
set_option linter.unusedSimpArgs false
set_option linter.unusedVariables false
theorem C9 (n:Int)(lo:Int)(hi:Int):CP Try.prog 39 [(.int .i64 n),(.int .i64 lo),(.int .i64 hi)] (Bv n lo hi) (fun(x:Bool)=>(AV.bool x)):=by
 refine Db (n:=15) 0 Try.func39 J (by decide) J J fun h0 ids hI=>B4 (Ax (Bv.eq_1 _ _ _) ?_)
 refine Ab<|Y<|Ac (.bool false) J Ap<|Ad<|Ab<|Y<|Al 4 [] [(10,(.bool (decide (lo≤n))))] ?_
 refine Ce 4 [(14,(.bool ((decide (lo≤n))&&(decide (n≤hi)))))] ?_ fun hJ=>B3 (decide (lo≤n)) (fun hb1=>?_) (fun hb1=>?_)
 ·refine Ac (.bool ((decide (lo≤n))&&(decide (n≤hi)))) J Ap<|Ad<|Ca (a:=((decide (lo≤n))&&(decide (n≤hi)))) (vs:=[(.bool ((decide (lo≤n))&&(decide (n≤hi))))]) Try.func39 hI J (.same _)
 ·refine Bi (t:=10) hb1 J<|Al 4 [] [(14,(.bool (decide (n≤hi))))] ?_
  exact Br hJ (.cons (Fs hb1) .nil)
 refine Bi (t:=10) hb1 J<|Al 4 [] [(14,(.bool false))] ?_
 exact Br hJ (.cons (Ft hb1) .nil)
theorem Zk (rID:Int)(rMany:Int)(rTerm:Int)(rVote:Int)(rRole:Int)(rCommit:Int)(h0:Ag)(o0:Nat)(hI0:Ids h0 [o0] 1):Nz rID rMany rTerm rVote rRole rCommit≠.bad→Bw Try.prog 46 [(.agg [(.int .i64 rID),(.int .i64 rMany),(.int .i64 rTerm),(.int .i64 rVote),.emp,(.int .i64 rRole),(.int .i64 rCommit),.emp,.emp])] (hp h0 [o0] [none]) (Ec (fun a_ v h' => ∃ (g2:Nat),v=(.ptr o0 g2 0 0)∧h'=hp h0 [o0] [some (.rows g2 10 [[(.int .i64 rID),(.int .i64 rMany),(.int .i64 rTerm),(.int .i64 rVote),.emp,(.int .i64 rRole),(.int .i64 rCommit),.emp,.emp,.emp]])]) h0 (Nz rID rMany rTerm rVote rRole rCommit)):=by
 refine Cp (n:=6) 1 Try.func46 J (by decide) J J hI0 J fun ids he hI=>?_
 clear hI0
 obtain rfl:ix ids 0=o0:=he 0 rfl
 clear he
 refine B4 (Ax (Nz.eq_1 _ _ _ _ _ _) ?_)
 refine Ay ?_
 refine Ab<|Y<|Dg (v:=(.agg [(.I rID),(.I rMany),(.I rTerm),(.I rVote),.emp,(.I rRole),(.I rCommit),.emp,.emp])) (j:=1) hI J J J J J J J fun g=>Ac .nilp J Ap<|Ad<|Ay ?_
 refine Ab<|Y<|Al 2 [1] [(4,(.agg [(.I rID),(.I rMany),(.I rTerm),(.I rVote),.emp,(.I rRole),(.I rCommit),.emp,.emp,.emp]))] ?_
 refine Dg (v:=(.agg [(.I rID),(.I rMany),(.I rTerm),(.I rVote),.emp,(.I rRole),(.I rCommit),.emp,.emp,.emp])) (j:=0) hI J J J J J J J fun g1=>Ac (.q ids 0 g1) J Ap<|Ad<|Ay ?_
 exact D0 (K:=1) (N:=1) (a:=()) (vs:=[(.q ids 0 g1)]) [some (.rows g1 10 [[(.I rID),(.I rMany),(.I rTerm),(.I rVote),.emp,(.I rRole),(.I rCommit),.emp,.emp,.emp]])] Try.func46 hI J J J (.keep (.drop .nil)) (.same _) ⟨g1,J,J⟩
theorem Ux (s_ReplicaID:Int)(s_ReplicaMany:Int)(s_ReplicaTerm:Int)(s_ReplicaVote:Int)(s_ReplicaRole:Int)(s_ReplicaCommit:Int)(h0:Ag)(o0:Nat)(o1:Nat)(o2:Nat)(w:AV)(w1:AV)(w2:AV)(w3:AV)(g:Nat)(hI0:Ids h0 [o0,o1,o2] 3):Jk s_ReplicaID s_ReplicaMany s_ReplicaTerm s_ReplicaVote s_ReplicaRole s_ReplicaCommit≠.bad→Bw Try.prog 47 [(.ptr o0 g 0 0)] (hp h0 [o0,o1,o2] [some (.rows g 10 [[(.int .i64 s_ReplicaID),(.int .i64 s_ReplicaMany),(.int .i64 s_ReplicaTerm),(.int .i64 s_ReplicaVote),w,(.int .i64 s_ReplicaRole),(.int .i64 s_ReplicaCommit),w1,w2,w3]]),none,none]) (Ec (fun a_ v h' => ∃ (v19:AV),∃ (g19:Nat),∃ (v20:AV),∃ (g20:Nat),Bs v19 o1 g19 a_.1.length∧Bs v20 o2 g20 a_.2.length∧v=(.tup [])∧h'=hp h0 [o0,o1,o2] [some (.rows g 10 [[(.int .i64 s_ReplicaID),(.int .i64 s_ReplicaMany),(.int .i64 s_ReplicaTerm),(.int .i64 s_ReplicaVote),w,(.int .i64 0),(.int .i64 s_ReplicaCommit),v19,v20,w3]]),Ba v19 g19 1 (List.map rB a_.1),Ba v20 g20 1 (List.map (rI .i64) a_.2)]) h0 (Jk s_ReplicaID s_ReplicaMany s_ReplicaTerm s_ReplicaVote s_ReplicaRole s_ReplicaCommit)):=by
 refine Cp (n:=30) 0 Try.func47 J (by decide) J J hI0 J fun ids he hI=>?_
 clear hI0
 obtain rfl:ix ids 0=o0:=he 0 rfl
 obtain rfl:ix ids 1=o1:=he 1 rfl
 obtain rfl:ix ids 2=o2:=he 2 rfl
 clear he
 refine B4 (Ax (Jk.eq_1 _ _ _ _ _ _) ?_)
 refine Ab<|Y<|Ac (.I 0) J Ap<|Ad<|Ab<|Ab<|Y ?_
 refine Al 5 [0] [(7,(.I s_ReplicaMany))] ?_
 refine Bn [(.I s_ReplicaMany),(.I 0),(.I 5)] J J J J ((C9 s_ReplicaMany 0 5) _) (fun v _=>B8 (K:=3) (N:=0) Try.func47 hI) fun r _=>Ad<|D4 (fun n=>Jx n) (fun n=>fun(fr:Nat→AV) (h:Ag)=>fr=A0 [(0,(.q ids 0 g)),(2,(.I n))]∧h=hp h0 ids [(some (.rows g 10 [[(.I s_ReplicaID),(.I s_ReplicaMany),(.I s_ReplicaTerm),(.I s_ReplicaVote),w,(.I s_ReplicaRole),(.I s_ReplicaCommit),w1,w2,w3]])),none,none]) ?_ fun hJ1=>?_
 ·rintro n fr h ⟨rfl,rfl⟩
  refine Ax (Jx.eq_1 _)<|D4 (Eu fun l l1=>L7 l l1) (Eu fun l l1=>fun(fr:Nat→AV) (h:Ag) => ∃ (v17:AV),∃ (g17:Nat),∃ (v18:AV),∃ (g18:Nat),Bs v17 (ix ids 1) g17 l.length∧Bs v18 (ix ids 2) g18 l1.length∧fr=A0 []∧h=hp h0 ids [(some (.rows g 10 [[(.I s_ReplicaID),(.I s_ReplicaMany),(.I s_ReplicaTerm),(.I s_ReplicaVote),w,(.I 0),(.I s_ReplicaCommit),v17,v18,w3]])),(Ba v17 g17 1 (List.map rB l)),(Ba v18 g18 1 (List.map (rI .i64) l1))]) ?_ fun hJ=>?_
  ·rintro⟨l,l1⟩ fr h ⟨v17,g17,v18,g18,vH16,vH17,rfl,rfl⟩
   refine Ax (L7.eq_1 _ _)<|Fm (K:=3) (N:=0) (a:=(l,l1)) (vs:=[]) [some (.rows g 10 [[(.I s_ReplicaID),(.I s_ReplicaMany),(.I s_ReplicaTerm),(.I s_ReplicaVote),w,(.I 0),(.I s_ReplicaCommit),v17,v18,w3]]),Ba v17 g17 1 (List.map rB l),Ba v18 g18 1 (List.map (rI .i64) l1)] Try.func47 hI J J J (.keep (.keep (.keep .nil))) (.same _) ⟨v17,g17,v18,g18,vH16,vH17,J,J⟩
  refine R5 Da (.node 14 6 (.node 10 6 (.node 10 4 (.node 6 4 (.leaf [[],[],[],[],[3,3],[],[3,4,5],[0,0],[0,7],[0,7,8],[0,3,4,5,6,7,8,9],[0,1,3,4,5,6,7,8,9,10],[0,1,3,4,5,6,7,8,9,10,11],[0,1,3,4,5,6,7,8,9,10,11,12],[0,1,3,4,5,6,7,8,9,10,11,12,13],[0,1,2,2,3,4,5,6,7,8,9,10,11,12,13,14],[0,1,2,3,4,5,6,7,8,9,10,11,12,13,14,15],[0,1,2,3,4,5,6,7,8,9,10,11,12,13,14,15,16],[0,1,2,3,4,5,6,7,8,9,10,11,12,13,14,15,16,17]] [(false,0),(false,1),(false,2),(false,3),(false,5),(false,7),(false,8),(false,9),(true,4),(true,6),(true,10),(false,11),(false,12),(false,13),(true,14),(false,15),(false,16),(false,17),(true,18)]) (.leaf [[],[],[],[],[3,5,6],[],[5,5],[0,0],[0,7],[0,7,8],[0,3,4,5,6,7,8,9],[0,1,3,4,5,6,7,8,9,10],[0,1,3,4,5,6,7,8,9,10,11],[0,1,3,4,5,6,7,8,9,10,11,12],[0,1,3,4,5,6,7,8,9,10,11,12,13],[0,1,2,2,3,4,5,6,7,8,9,10,11,12,13,14],[0,1,2,3,4,5,6,7,8,9,10,11,12,13,14,15],[0,1,2,3,4,5,6,7,8,9,10,11,12,13,14,15,16],[0,1,2,3,4,5,6,7,8,9,10,11,12,13,14,15,16,17]] [(false,0),(false,1),(false,2),(false,3),(false,5),(false,7),(false,8),(false,9),(true,6),(true,4),(true,10),(false,11),(false,12),(false,13),(true,14),(false,15),(false,16),(false,17),(true,18)])) (.leaf [[],[],[],[],[0,3,5,6,7,8,9,10],[],[5,5],[0,0],[0,7],[0,7,8],[0,5,6,7,8,9],[0,1,3,4,5,6,7,8,9,10],[0,1,3,4,5,6,7,8,9,10,11],[0,1,3,4,5,6,7,8,9,10,11,12],[0,1,3,4,5,6,7,8,9,10,11,12,13],[0,1,2,2,3,4,5,6,7,8,9,10,11,12,13,14],[0,1,2,3,4,5,6,7,8,9,10,11,12,13,14,15],[0,1,2,3,4,5,6,7,8,9,10,11,12,13,14,15,16],[0,1,2,3,4,5,6,7,8,9,10,11,12,13,14,15,16,17]] [(false,0),(false,1),(false,2),(false,3),(false,5),(false,7),(false,8),(false,9),(true,6),(true,10),(true,4),(false,11),(false,12),(false,13),(true,14),(false,15),(false,16),(false,17),(true,18)])) (.node 6 4 (.node 10 4 (.leaf [[],[],[],[],[3,3],[],[0,3,4,5,7,8,9,10],[0,0],[0,7],[0,7,8],[0,3,4,7,8,9],[0,1,1,3,4,7,8,9,10],[0,1,3,4,7,8,9,10,11],[0,1,3,4,7,8,9,10,11,12],[0,1,3,4,5,6,7,8,9,10,11,12,13],[0,1,2,2,3,4,5,6,7,8,9,10,11,12,13,14],[0,1,2,3,4,5,6,7,8,9,10,11,12,13,14,15],[0,1,2,3,4,5,6,7,8,9,10,11,12,13,14,15,16],[0,1,2,3,4,5,6,7,8,9,10,11,12,13,14,15,16,17]] [(false,0),(false,1),(false,2),(false,3),(false,5),(false,7),(false,8),(false,9),(true,4),(true,10),(false,11),(false,12),(false,13),(true,6),(true,14),(false,15),(false,16),(false,17),(true,18)]) (.leaf [[],[],[],[],[0,3,7,8,9,10],[],[0,3,4,5,7,8,9,10],[0,0],[0,7],[0,7,8],[0,7,8,9],[0,1,1,3,4,7,8,9,10],[0,1,3,4,7,8,9,10,11],[0,1,3,4,7,8,9,10,11,12],[0,1,3,4,5,6,7,8,9,10,11,12,13],[0,1,2,2,3,4,5,6,7,8,9,10,11,12,13,14],[0,1,2,3,4,5,6,7,8,9,10,11,12,13,14,15],[0,1,2,3,4,5,6,7,8,9,10,11,12,13,14,15,16],[0,1,2,3,4,5,6,7,8,9,10,11,12,13,14,15,16,17]] [(false,0),(false,1),(false,2),(false,3),(false,5),(false,7),(false,8),(false,9),(true,10),(true,4),(false,11),(false,12),(false,13),(true,6),(true,14),(false,15),(false,16),(false,17),(true,18)])) (.leaf [[],[],[],[],[0,3,5,6,7,8,9,10],[],[0,5,7,8,9,10],[0,0],[0,7],[0,7,8],[0,7,8,9],[0,1,3,4,5,6,7,8,9,10],[0,1,3,4,5,6,7,8,9,10,11],[0,1,3,4,5,6,7,8,9,10,11,12],[0,1,3,4,5,6,7,8,9,10,11,12,13],[0,1,2,2,3,4,5,6,7,8,9,10,11,12,13,14],[0,1,2,3,4,5,6,7,8,9,10,11,12,13,14,15],[0,1,2,3,4,5,6,7,8,9,10,11,12,13,14,15,16],[0,1,2,3,4,5,6,7,8,9,10,11,12,13,14,15,16,17]] [(false,0),(false,1),(false,2),(false,3),(false,5),(false,7),(false,8),(false,9),(true,10),(true,6),(true,4),(false,11),(false,12),(false,13),(true,14),(false,15),(false,16),(false,17),(true,18)]))) (.node 10 4 (.leaf [[],[],[],[],[3,3],[],[0,1,3,4,5,7,8,9,10,11,12,13,14],[0,0],[0,7],[0,7,8],[0,3,4,7,8,9],[0,1,1,3,4,7,8,9,10],[0,1,3,4,7,8,9,10,11],[0,1,3,4,7,8,9,10,11,12],[0,1,3,4,7,8,9,10,11,12,13],[0,1,2,2,3,4,5,6,7,8,9,10,11,12,13,14],[0,1,2,3,4,5,6,7,8,9,10,11,12,13,14,15],[0,1,2,3,4,5,6,7,8,9,10,11,12,13,14,15,16],[0,1,2,3,4,5,6,7,8,9,10,11,12,13,14,15,16,17]] [(false,0),(false,1),(false,2),(false,3),(false,5),(false,7),(false,8),(false,9),(true,4),(true,10),(false,11),(false,12),(false,13),(true,14),(true,6),(false,15),(false,16),(false,17),(true,18)]) (.leaf [[],[],[],[],[0,3,7,8,9,10],[],[0,1,3,4,5,7,8,9,10,11,12,13,14],[0,0],[0,7],[0,7,8],[0,7,8,9],[0,1,1,3,4,7,8,9,10],[0,1,3,4,7,8,9,10,11],[0,1,3,4,7,8,9,10,11,12],[0,1,3,4,7,8,9,10,11,12,13],[0,1,2,2,3,4,5,6,7,8,9,10,11,12,13,14],[0,1,2,3,4,5,6,7,8,9,10,11,12,13,14,15],[0,1,2,3,4,5,6,7,8,9,10,11,12,13,14,15,16],[0,1,2,3,4,5,6,7,8,9,10,11,12,13,14,15,16,17]] [(false,0),(false,1),(false,2),(false,3),(false,5),(false,7),(false,8),(false,9),(true,10),(true,4),(false,11),(false,12),(false,13),(true,14),(true,6),(false,15),(false,16),(false,17),(true,18)]))) (by kernel_rfl)<|Ii ?_ ?_
  ·refine Ii ?_ ?_
   ·refine Ii ?_ ?_
    ·refine Ii ?_ ?_
     ·refine Ge<|O (.q ids 0 g) J J Z<|O (.q ids 0 g) J J Z<|O (.q ids 0 g) J J Z<|O (.I n) J J Z<|O (.I n) J J Z<|O (.q ids 0 g) J J (Aj J) ?_
      refine O (.q ids 0 g) J J (Ae (Ai 0 0 0 Bd J As J))<|O (.ptr (ix ids 0) g 0 5) J J (Ae (Ai 0 5 5 As J Aq J))<|Cb fun hl=>Cf J J (fun _ _=>J) (fun K hK=>Dc (y:=(false:Bool)) (e:=rB) (st:=1) (j:=1) hI J J J Dm Hf J J hl.1 hl.2.1 hl.2.2 J J J J J fun v1 g1 vH=>hK _ _ (Aa J (Ae (Ai 0 5 5 As J Aq J)) (Aa J (Ae (Ai 0 0 0 Bd J As J)) (Aa J (Aj J) (Aa J Z (Au J (Aa J Z (Aa J Z (Aa J Z Ao)))))))) ?_)
      clear hK K
      refine Cb fun hl1=>Cf J J (fun _ _=>J) (fun K hK=>Dc (y:=(0:Int)) (e:=(rI .i64)) (st:=1) (j:=2) hI J J J Cm Aq J J hl1.1 hl1.2.1 hl1.2.2 J J J J J fun v2 g2 vH1=>hK _ _ (Aa J (Ae (Ai 0 5 5 As J Aq J)) (Aa J (Ae (Ai 0 0 0 Bd J As J)) (Aa J (Aj J) (A9 J (Aa J Z (Aa J Z (Aa J Z Ao))))))) ?_)
      clear hK K
      refine Bo J (fun _ _=>J) (fun K hK=>A5 (A8 (v:=(.I 0)) hI J J J J Aq J J J J J) (hK _ _ (A7 J (Au J (Aa J Z (Aa J Z (Au J Ao))))) ?_))
      clear hK K
      refine O (.q ids 0 g) J J (Aj J)<|O (.q ids 0 g) J J (Ae (Ai 0 0 0 Bd J As J))<|O (.ptr (ix ids 0) g 0 7) J J (Ae (Ai 0 7 7 As J Dm J))<|Bo J (fun _ _=>J) (fun K hK=>A5 (Cs vH hI J J J J Dm J J J) (hK _ _ (A6 J (Aa J Z (A9 J Ao))) ?_))
      clear hK K
      refine O (.q ids 0 g) J J (Aj J)<|O (.q ids 0 g) J J (Ae (Ai 0 0 0 Bd J As J))<|O (.ptr (ix ids 0) g 0 8) J J (Ae (Ai 0 8 8 As J Cm J))<|Bo J (fun _ _=>J) (fun K hK=>A5 (Cs vH1 hI J J J J Cm J J J) (hK _ _ (A6 J (A7 J (A9 J Ao))) ?_))
      clear hK K
      refine Bh<|Ay ?_
      exact Bt (hJ ((List.replicate (Int.toNat n) false),(List.replicate (Int.toNat n) (0:Int))) _ _ ⟨v1,g1,v2,g2,vH,vH1,J,J⟩)
     refine Ge<|Cb fun hl3=>Cb fun hl2=>O (.q ids 0 g) J J Z<|O (.q ids 0 g) J J Z<|O (.q ids 0 g) J J Z<|O (.I n) J J Z ?_
     refine O (.I n) J J Z<|O (.q ids 0 g) J J (Aj J)<|O (.q ids 0 g) J J (Ae (Ai 0 0 0 Bd J As J))<|O (.ptr (ix ids 0) g 0 5) J J (Ae (Ai 0 5 5 As J Aq J))<|Cf J J (fun _ _=>J) (fun K hK=>Dc (y:=(0:Int)) (e:=(rI .i64)) (st:=1) (j:=2) hI J J J Cm Aq J J hl2.1 hl2.2.1 hl2.2.2 J J J J J fun v3 g3 vH2=>hK _ _ (Aa J (Ae (Ai 0 5 5 As J Aq J)) (Aa J (Ae (Ai 0 0 0 Bd J As J)) (Aa J (Aj J) (Au J (Aa J Z (Aa J Z (Aa J Z (Aa J Z Ao)))))))) ?_)
     clear hK K
     refine Cf J J (fun _ _=>J) (fun K hK=>Dc (y:=(false:Bool)) (e:=rB) (st:=1) (j:=1) hI J J J Dm Hf J J hl3.1 hl3.2.1 hl3.2.2 J J J J J fun v4 g4 vH3=>hK _ _ (Aa J (Ae (Ai 0 5 5 As J Aq J)) (Aa J (Ae (Ai 0 0 0 Bd J As J)) (Aa J (Aj J) (A9 J (Aa J Z (Aa J Z (Aa J Z Ao))))))) ?_)
     clear hK K
     refine Bo J (fun _ _=>J) (fun K hK=>A5 (A8 (v:=(.I 0)) hI J J J J Aq J J J J J) (hK _ _ (A7 J (Au J (Aa J Z (Aa J Z (Au J Ao))))) ?_))
     clear hK K
     refine O (.q ids 0 g) J J (Aj J)<|O (.q ids 0 g) J J (Ae (Ai 0 0 0 Bd J As J))<|O (.ptr (ix ids 0) g 0 7) J J (Ae (Ai 0 7 7 As J Dm J))<|Bo J (fun _ _=>J) (fun K hK=>A5 (Cs vH3 hI J J J J Dm J J J) (hK _ _ (A6 J (Aa J Z (A9 J Ao))) ?_))
     clear hK K
     refine O (.q ids 0 g) J J (Aj J)<|O (.q ids 0 g) J J (Ae (Ai 0 0 0 Bd J As J))<|O (.ptr (ix ids 0) g 0 8) J J (Ae (Ai 0 8 8 As J Cm J))<|Bo J (fun _ _=>J) (fun K hK=>A5 (Cs vH2 hI J J J J Cm J J J) (hK _ _ (A6 J (A7 J (A9 J Ao))) ?_))
     clear hK K
     refine Bh<|Ay ?_
     exact Bt (hJ ((List.replicate (Int.toNat n) false),(List.replicate (Int.toNat n) (0:Int))) _ _ ⟨v4,g4,v3,g3,vH3,vH2,J,J⟩)
    refine Ge<|Cb fun hl5=>Cb fun hl4=>O (.q ids 0 g) J J Z<|O (.q ids 0 g) J J Z<|O (.q ids 0 g) J J Z<|O (.I n) J J Z ?_
    refine O (.I n) J J Z<|O (.q ids 0 g) J J (Aj J)<|O (.q ids 0 g) J J (Ae (Ai 0 0 0 Bd J As J))<|O (.ptr (ix ids 0) g 0 5) J J (Ae (Ai 0 5 5 As J Aq J))<|Cf J J (fun _ _=>J) (fun K hK=>Dc (y:=(0:Int)) (e:=(rI .i64)) (st:=1) (j:=2) hI J J J Cm Aq J J hl4.1 hl4.2.1 hl4.2.2 J J J J J fun v5 g5 vH4=>hK _ _ (Aa J (Ae (Ai 0 5 5 As J Aq J)) (Aa J (Ae (Ai 0 0 0 Bd J As J)) (Aa J (Aj J) (Au J (Aa J Z (Aa J Z (Aa J Z (Aa J Z Ao)))))))) ?_)
    clear hK K
    refine Bo J (fun _ _=>J) (fun K hK=>A5 (A8 (v:=(.I 0)) hI J J J J Aq J J J J J) (hK _ _ (A7 J (Aa J Z (Aa J Z (Aa J Z (Au J Ao))))) ?_))
    clear hK K
    refine Cf J J (fun _ _=>J) (fun K hK=>Dc (y:=(false:Bool)) (e:=rB) (st:=1) (j:=1) hI J J J Dm Hf J J hl5.1 hl5.2.1 hl5.2.2 J J J J J fun v6 g6 vH5=>hK _ _ (A7 J (Au J (Aa J Z (Aa J Z (Au J Ao))))) ?_)
    clear hK K
    refine O (.q ids 0 g) J J (Aj J)<|O (.q ids 0 g) J J (Ae (Ai 0 0 0 Bd J As J))<|O (.ptr (ix ids 0) g 0 7) J J (Ae (Ai 0 7 7 As J Dm J))<|Bo J (fun _ _=>J) (fun K hK=>A5 (Cs vH5 hI J J J J Dm J J J) (hK _ _ (A6 J (Aa J Z (A9 J Ao))) ?_))
    clear hK K
    refine O (.q ids 0 g) J J (Aj J)<|O (.q ids 0 g) J J (Ae (Ai 0 0 0 Bd J As J))<|O (.ptr (ix ids 0) g 0 8) J J (Ae (Ai 0 8 8 As J Cm J))<|Bo J (fun _ _=>J) (fun K hK=>A5 (Cs vH4 hI J J J J Cm J J J) (hK _ _ (A6 J (A7 J (A9 J Ao))) ?_))
    clear hK K
    refine Bh<|Ay ?_
    exact Bt (hJ ((List.replicate (Int.toNat n) false),(List.replicate (Int.toNat n) (0:Int))) _ _ ⟨v6,g6,v5,g5,vH5,vH4,J,J⟩)
   refine Ii ?_ ?_
   ·refine Ii ?_ ?_
    ·refine Ge<|Cb fun hl6=>Cb fun hl7=>O (.q ids 0 g) J J Z<|O (.q ids 0 g) J J Z<|O (.q ids 0 g) J J Z<|O (.I n) J J Z ?_
     refine O (.I n) J J Z<|O (.q ids 0 g) J J (Aj J)<|O (.q ids 0 g) J J (Ae (Ai 0 0 0 Bd J As J))<|O (.ptr (ix ids 0) g 0 5) J J (Ae (Ai 0 5 5 As J Aq J))<|Cf J J (fun _ _=>J) (fun K hK=>Dc (y:=(false:Bool)) (e:=rB) (st:=1) (j:=1) hI J J J Dm Hf J J hl6.1 hl6.2.1 hl6.2.2 J J J J J fun v7 g7 vH6=>hK _ _ (Aa J (Ae (Ai 0 5 5 As J Aq J)) (Aa J (Ae (Ai 0 0 0 Bd J As J)) (Aa J (Aj J) (Aa J Z (Au J (Aa J Z (Aa J Z (Aa J Z Ao)))))))) ?_)
     clear hK K
     refine Bo J (fun _ _=>J) (fun K hK=>A5 (A8 (v:=(.I 0)) hI J J J J Aq J J J J J) (hK _ _ (A9 J (Au J (Aa J Z (Au J (Aa J Z (Aa J Z (Au J Ao))))))) ?_))
     clear hK K
     refine O (.q ids 0 g) J J (Aj J)<|O (.q ids 0 g) J J (Ae (Ai 0 0 0 Bd J As J))<|O (.ptr (ix ids 0) g 0 7) J J (Ae (Ai 0 7 7 As J Dm J))<|Cf J J (fun _ _=>J) (fun K hK=>Dc (y:=(0:Int)) (e:=(rI .i64)) (st:=1) (j:=2) hI J J J Cm Aq J J hl7.1 hl7.2.1 hl7.2.2 J J J J J fun v8 g8 vH7=>hK _ _ (Aa J (Ae (Ai 0 7 7 As J Dm J)) (Aa J (Ae (Ai 0 0 0 Bd J As J)) (Aa J (Aj J) (A7 J (Au J (Aa J Z (Aa J Z (Au J Ao)))))))) ?_)
     clear hK K
     refine Bo J (fun _ _=>J) (fun K hK=>A5 (Cs vH6 hI J J J J Dm J J J) (hK _ _ (A6 J (Aa J Z (A9 J Ao))) ?_))
     clear hK K
     refine O (.q ids 0 g) J J (Aj J)<|O (.q ids 0 g) J J (Ae (Ai 0 0 0 Bd J As J))<|O (.ptr (ix ids 0) g 0 8) J J (Ae (Ai 0 8 8 As J Cm J))<|Bo J (fun _ _=>J) (fun K hK=>A5 (Cs vH7 hI J J J J Cm J J J) (hK _ _ (A6 J (A7 J (A9 J Ao))) ?_))
     clear hK K
     refine Bh<|Ay ?_
     exact Bt (hJ ((List.replicate (Int.toNat n) false),(List.replicate (Int.toNat n) (0:Int))) _ _ ⟨v7,g7,v8,g8,vH6,vH7,J,J⟩)
    refine Ge<|Cb fun hl8=>Cb fun hl9=>O (.q ids 0 g) J J Z<|O (.q ids 0 g) J J Z<|O (.q ids 0 g) J J Z<|O (.I n) J J Z ?_
    refine O (.I n) J J Z<|O (.q ids 0 g) J J (Aj J)<|O (.q ids 0 g) J J (Ae (Ai 0 0 0 Bd J As J))<|O (.ptr (ix ids 0) g 0 5) J J (Ae (Ai 0 5 5 As J Aq J))<|Bo J (fun _ _=>J) (fun K hK=>A5 (A8 (v:=(.I 0)) hI J J J J Aq J J J J J) (hK _ _ (A9 J (Au J (Aa J Z (Aa J Z (Aa J Z (Aa J Z (Au J Ao))))))) ?_))
    clear hK K
    refine Cf J J (fun _ _=>J) (fun K hK=>Dc (y:=(false:Bool)) (e:=rB) (st:=1) (j:=1) hI J J J Dm Hf J J hl8.1 hl8.2.1 hl8.2.2 J J J J J fun v9 g9 vH8=>hK _ _ (A9 J (Au J (Aa J Z (Au J (Aa J Z (Aa J Z (Au J Ao))))))) ?_)
    clear hK K
    refine O (.q ids 0 g) J J (Aj J)<|O (.q ids 0 g) J J (Ae (Ai 0 0 0 Bd J As J))<|O (.ptr (ix ids 0) g 0 7) J J (Ae (Ai 0 7 7 As J Dm J))<|Cf J J (fun _ _=>J) (fun K hK=>Dc (y:=(0:Int)) (e:=(rI .i64)) (st:=1) (j:=2) hI J J J Cm Aq J J hl9.1 hl9.2.1 hl9.2.2 J J J J J fun v10 g10 vH9=>hK _ _ (Aa J (Ae (Ai 0 7 7 As J Dm J)) (Aa J (Ae (Ai 0 0 0 Bd J As J)) (Aa J (Aj J) (A7 J (Au J (Aa J Z (Aa J Z (Au J Ao)))))))) ?_)
    clear hK K
    refine Bo J (fun _ _=>J) (fun K hK=>A5 (Cs vH8 hI J J J J Dm J J J) (hK _ _ (A6 J (Aa J Z (A9 J Ao))) ?_))
    clear hK K
    refine O (.q ids 0 g) J J (Aj J)<|O (.q ids 0 g) J J (Ae (Ai 0 0 0 Bd J As J))<|O (.ptr (ix ids 0) g 0 8) J J (Ae (Ai 0 8 8 As J Cm J))<|Bo J (fun _ _=>J) (fun K hK=>A5 (Cs vH9 hI J J J J Cm J J J) (hK _ _ (A6 J (A7 J (A9 J Ao))) ?_))
    clear hK K
    refine Bh<|Ay ?_
    exact Bt (hJ ((List.replicate (Int.toNat n) false),(List.replicate (Int.toNat n) (0:Int))) _ _ ⟨v9,g9,v10,g10,vH8,vH9,J,J⟩)
   refine Ge<|Cb fun hl11=>Cb fun hl10=>O (.q ids 0 g) J J Z<|O (.q ids 0 g) J J Z<|O (.q ids 0 g) J J Z<|O (.I n) J J Z ?_
   refine O (.I n) J J Z<|O (.q ids 0 g) J J (Aj J)<|O (.q ids 0 g) J J (Ae (Ai 0 0 0 Bd J As J))<|O (.ptr (ix ids 0) g 0 5) J J (Ae (Ai 0 5 5 As J Aq J))<|Bo J (fun _ _=>J) (fun K hK=>A5 (A8 (v:=(.I 0)) hI J J J J Aq J J J J J) (hK _ _ (A9 J (Au J (Aa J Z (Aa J Z (Aa J Z (Aa J Z (Au J Ao))))))) ?_))
   clear hK K
   refine Cf J J (fun _ _=>J) (fun K hK=>Dc (y:=(0:Int)) (e:=(rI .i64)) (st:=1) (j:=2) hI J J J Cm Aq J J hl10.1 hl10.2.1 hl10.2.2 J J J J J fun v11 g11 vH10=>hK _ _ (A7 J (Aa J Z (Aa J Z (Aa J Z (Au J Ao))))) ?_)
   clear hK K
   refine Cf J J (fun _ _=>J) (fun K hK=>Dc (y:=(false:Bool)) (e:=rB) (st:=1) (j:=1) hI J J J Dm Hf J J hl11.1 hl11.2.1 hl11.2.2 J J J J J fun v12 g12 vH11=>hK _ _ (A7 J (Au J (Aa J Z (Aa J Z (Au J Ao))))) ?_)
   clear hK K
   refine O (.q ids 0 g) J J (Aj J)<|O (.q ids 0 g) J J (Ae (Ai 0 0 0 Bd J As J))<|O (.ptr (ix ids 0) g 0 7) J J (Ae (Ai 0 7 7 As J Dm J))<|Bo J (fun _ _=>J) (fun K hK=>A5 (Cs vH11 hI J J J J Dm J J J) (hK _ _ (A6 J (Aa J Z (A9 J Ao))) ?_))
   clear hK K
   refine O (.q ids 0 g) J J (Aj J)<|O (.q ids 0 g) J J (Ae (Ai 0 0 0 Bd J As J))<|O (.ptr (ix ids 0) g 0 8) J J (Ae (Ai 0 8 8 As J Cm J))<|Bo J (fun _ _=>J) (fun K hK=>A5 (Cs vH10 hI J J J J Cm J J J) (hK _ _ (A6 J (A7 J (A9 J Ao))) ?_))
   clear hK K
   refine Bh<|Ay ?_
   exact Bt (hJ ((List.replicate (Int.toNat n) false),(List.replicate (Int.toNat n) (0:Int))) _ _ ⟨v12,g12,v11,g11,vH11,vH10,J,J⟩)
  refine Ii ?_ ?_
  ·refine Ge<|Cb fun hl12=>Cb fun hl13=>O (.q ids 0 g) J J Z<|O (.q ids 0 g) J J Z<|O (.q ids 0 g) J J Z<|O (.I n) J J Z ?_
   refine O (.I n) J J Z<|O (.q ids 0 g) J J (Aj J)<|O (.q ids 0 g) J J (Ae (Ai 0 0 0 Bd J As J))<|O (.ptr (ix ids 0) g 0 5) J J (Ae (Ai 0 5 5 As J Aq J))<|Cf J J (fun _ _=>J) (fun K hK=>Dc (y:=(false:Bool)) (e:=rB) (st:=1) (j:=1) hI J J J Dm Hf J J hl12.1 hl12.2.1 hl12.2.2 J J J J J fun v13 g13 vH12=>hK _ _ (Aa J (Ae (Ai 0 5 5 As J Aq J)) (Aa J (Ae (Ai 0 0 0 Bd J As J)) (Aa J (Aj J) (Aa J Z (Au J (Aa J Z (Aa J Z (Aa J Z Ao)))))))) ?_)
   clear hK K
   refine Bo J (fun _ _=>J) (fun K hK=>A5 (A8 (v:=(.I 0)) hI J J J J Aq J J J J J) (hK _ _ (A9 J (Au J (Aa J Z (Au J (Aa J Z (Aa J Z (Au J Ao))))))) ?_))
   clear hK K
   refine O (.q ids 0 g) J J (Aj J)<|O (.q ids 0 g) J J (Ae (Ai 0 0 0 Bd J As J))<|O (.ptr (ix ids 0) g 0 7) J J (Ae (Ai 0 7 7 As J Dm J))<|Bo J (fun _ _=>J) (fun K hK=>A5 (Cs vH12 hI J J J J Dm J J J) (hK _ _ (A7 J (A9 J (Aa J Z (Au J (Aa J Z (A9 J Ao)))))) ?_))
   clear hK K
   refine Cf J J (fun _ _=>J) (fun K hK=>Dc (y:=(0:Int)) (e:=(rI .i64)) (st:=1) (j:=2) hI J J J Cm Aq J J hl13.1 hl13.2.1 hl13.2.2 J J J J J fun v14 g14 vH13=>hK _ _ (A6 J (Aa J Z (A9 J Ao))) ?_)
   clear hK K
   refine O (.q ids 0 g) J J (Aj J)<|O (.q ids 0 g) J J (Ae (Ai 0 0 0 Bd J As J))<|O (.ptr (ix ids 0) g 0 8) J J (Ae (Ai 0 8 8 As J Cm J))<|Bo J (fun _ _=>J) (fun K hK=>A5 (Cs vH13 hI J J J J Cm J J J) (hK _ _ (A6 J (A7 J (A9 J Ao))) ?_))
   clear hK K
   refine Bh<|Ay ?_
   exact Bt (hJ ((List.replicate (Int.toNat n) false),(List.replicate (Int.toNat n) (0:Int))) _ _ ⟨v13,g13,v14,g14,vH12,vH13,J,J⟩)
  refine Ge<|Cb fun hl14=>Cb fun hl15=>O (.q ids 0 g) J J Z<|O (.q ids 0 g) J J Z<|O (.q ids 0 g) J J Z<|O (.I n) J J Z ?_
  refine O (.I n) J J Z<|O (.q ids 0 g) J J (Aj J)<|O (.q ids 0 g) J J (Ae (Ai 0 0 0 Bd J As J))<|O (.ptr (ix ids 0) g 0 5) J J (Ae (Ai 0 5 5 As J Aq J))<|Bo J (fun _ _=>J) (fun K hK=>A5 (A8 (v:=(.I 0)) hI J J J J Aq J J J J J) (hK _ _ (A9 J (Au J (Aa J Z (Aa J Z (Aa J Z (Aa J Z (Au J Ao))))))) ?_))
  clear hK K
  refine Cf J J (fun _ _=>J) (fun K hK=>Dc (y:=(false:Bool)) (e:=rB) (st:=1) (j:=1) hI J J J Dm Hf J J hl14.1 hl14.2.1 hl14.2.2 J J J J J fun v15 g15 vH14=>hK _ _ (A9 J (Au J (Aa J Z (Au J (Aa J Z (Aa J Z (Au J Ao))))))) ?_)
  clear hK K
  refine O (.q ids 0 g) J J (Aj J)<|O (.q ids 0 g) J J (Ae (Ai 0 0 0 Bd J As J))<|O (.ptr (ix ids 0) g 0 7) J J (Ae (Ai 0 7 7 As J Dm J))<|Bo J (fun _ _=>J) (fun K hK=>A5 (Cs vH14 hI J J J J Dm J J J) (hK _ _ (A7 J (A9 J (Aa J Z (Au J (Aa J Z (A9 J Ao)))))) ?_))
  clear hK K
  refine Cf J J (fun _ _=>J) (fun K hK=>Dc (y:=(0:Int)) (e:=(rI .i64)) (st:=1) (j:=2) hI J J J Cm Aq J J hl15.1 hl15.2.1 hl15.2.2 J J J J J fun v16 g16 vH15=>hK _ _ (A6 J (Aa J Z (A9 J Ao))) ?_)
  clear hK K
  refine O (.q ids 0 g) J J (Aj J)<|O (.q ids 0 g) J J (Ae (Ai 0 0 0 Bd J As J))<|O (.ptr (ix ids 0) g 0 8) J J (Ae (Ai 0 8 8 As J Cm J))<|Bo J (fun _ _=>J) (fun K hK=>A5 (Cs vH15 hI J J J J Cm J J J) (hK _ _ (A6 J (A7 J (A9 J Ao))) ?_))
  clear hK K
  refine Bh<|Ay ?_
  exact Bt (hJ ((List.replicate (Int.toNat n) false),(List.replicate (Int.toNat n) (0:Int))) _ _ ⟨v15,g15,v16,g16,vH14,vH15,J,J⟩)
 refine Cn J (fun hc=>?_) (fun hc=>?_)
 ·refine Y<|Al 6 [0] [(2,(.I s_ReplicaMany))] ?_
  refine Ad<|Bt (hJ1 s_ReplicaMany _ _ ⟨J,J⟩)
 refine Bl<|Bt (hJ1 0 _ _ ⟨J,J⟩)
theorem R7 (id:Int)(many:Int):CP Try.prog 28 [(.int .i64 id),(.int .i64 many)] (Ld id many) (fun(p:(Replica×Int))=>AV.tup [(.agg (A3 p.1)),(.int .i64 p.2)]):=by
 refine Db (n:=28) 4 Try.func28 J (by decide) J J fun h0 ids hI=>B4 (Ax (Ld.eq_1 _ _) ?_)
 refine Ab<|Y<|Ch (j:=0) hI J J J J As J fun g=>Ac (.I 0) J Ap<|Ad<|Ay ?_
 refine Ab<|Ab<|Y<|Ac (.I many) J Z<|Bn [(.I many),(.I 1),(.I 5)] J J J J ((C9 many 1 5) _) (fun v _=>Bp Try.func28 hI) fun r _=>Al 2 [] [(10,(.bool (!r)))] ?_
 refine Ed 6 ((fun(b:Bool)=>if b then(.ok (({ ID:=0,Many:=0,Term:=0,Vote:=0,Log:=[],Role:=0,Commit:=0,Votes:=[],Match:=[] }:Replica),470)) else((Nz id many 0 (-1) 0 0).bind fun _=>(Jk id many 0 (-1) 0 0).bind fun r2=>.ok (({ ID:=id,Many:=many,Term:=0,Vote:=(-1),Log:=[],Role:=0,Commit:=0,Votes:=r2.1,Match:=r2.2 }:Replica),0))):Bool→R (Replica×Int)) (fun(b:Bool) (fr:Nat→AV) (h:Ag)=>fr=A0 [(0,(.I id)),(1,(.I many)),(4,(.q ids 0 g)),(16,(.bool b))]∧h=hp h0 ids [(some (.rows g 9 [[(.I 0),(.I 0),(.I 0),(.I 0),.emp,(.I 0),(.I 0),.emp,.emp]])),none,none,none]) ?_ fun hJ=>E4 (fun hb1=>?_) (fun hb1=>?_)
 ·rintro b fr h ⟨rfl,rfl⟩
  refine Ad<|Cn J (fun hc=>?_) (fun hc=>?_)
  ·refine Ab<|Y<|Al 1 [0] [(17,(.agg [(.I 0),(.I 0),(.I 0),(.I 0),.emp,(.I 0),(.I 0),.emp,.emp]))] ?_
   refine Bc (A8 (v:=(.agg [(.I 0),(.I 0),(.I 0),(.I 0),.emp,(.I 0),(.I 0),.emp,.emp])) hI J J J J As J J J J J)<|Ac (.I 470) J Ap<|Ad<|Ca (a:=(({ ID:=0,Many:=0,Term:=0,Vote:=0,Log:=[],Role:=0,Commit:=0,Votes:=[],Match:=[] }:Replica),470)) (vs:=[(.agg [(.I 0),(.I 0),(.I 0),(.I 0),.emp,(.I 0),(.I 0),.emp,.emp]),(.I 470)]) Try.func28 hI (B7 (Ah hI J J J As J) (Dt Cq)) (.tupL (.cons (.aggL (.cons (.same _) (.cons (.same _) (.cons (.same _) (.cons (.same _) (.cons (.emp _) (.cons (.same _) (.cons (.same _) (.cons (.emp _) (.cons (.emp _) .nil)))))))))) (.cons (.same _) .nil)))
  refine Bl<|Ab<|Y<|Al 3 [] [(20,(.agg [(.I id),(.I many),(.I 0),(.I (-1)),.emp,(.I 0),(.I 0),.emp,.emp]))] ?_
  refine Cg [1] hI J J (Zk id many 0 (-1) 0 0 _ (ix ids 1) (by exact hI.sub' J J)) J J J J J J (fun v _=>Bp Try.func28 hI) ?_
  rintro _ _ _ _ ⟨g1,rfl,rfl⟩
  refine Dr [1] hI J J J ?_
  refine Cw<|Ac (.q ids 1 g1) J Ap<|Ad<|Ay ?_
  refine Ab<|Y<|Ac (.q ids 1 g1) J Z<|Cg [1,2,3] hI J J (Ux id many 0 (-1) 0 0 _ (ix ids 1) (ix ids 2) (ix ids 3) .emp .emp .emp .emp g1 (by exact hI.sub' J J)) J J J J J J (fun v _=>Bp Try.func28 hI) ?_
  rintro r2 _ _ _ ⟨v,g2,v1,g3,vH,vH1,rfl,rfl⟩
  refine Dr [1,2,3] hI J J J ?_
  refine Cw<|Ad<|Ay ?_
  refine Ab<|Y<|Al 4 [1] [(27,(.agg [(.I id),(.I many),(.I 0),(.I (-1)),.emp,(.I 0),(.I 0),v,v1]))] ?_
  refine Bc (A8 (v:=(.agg [(.I id),(.I many),(.I 0),(.I (-1)),.emp,(.I 0),(.I 0),v,v1])) hI J J J J As J J J J (Ar J (Ar J (Ar J (Ar J (Ar J (Ar J (Ar J (Ar (Bs.flat vH) (Ar (Bs.flat vH1) Eg))))))))))<|Ac (.I 0) J Ap<|Ad<|Ay ?_
  exact Ca (a:=(({ ID:=id,Many:=many,Term:=0,Vote:=(-1),Log:=[],Role:=0,Commit:=0,Votes:=r2.1,Match:=r2.2 }:Replica),0)) (vs:=[(.agg [(.I id),(.I many),(.I 0),(.I (-1)),.emp,(.I 0),(.I 0),v,v1]),(.I 0)]) Try.func28 hI (B7 (Ah hI J J J As J) (Dt Cq)) (.tupL (.cons (.aggL (.cons (.same _) (.cons (.same _) (.cons (.same _) (.cons (.same _) (.cons (.emp _) (.cons (.same _) (.cons (.same _) (.cons (Dp vH (hI.at J J) (hI.out J) (fun x=>Ue x)) (.cons (Dp vH1 (hI.at J J) (hI.out J) (fun x=>Hi x)) .nil)))))))))) (.cons (.same _) .nil)))
 ·refine Bi (t:=10) hb1 J<|Al 6 [] [(16,(.bool true))] ?_
  refine Bz<|C4 [(0,(.I id)),(1,(.I many)),(4,(.q ids 0 g)),(16,(.bool true))] (FI J)<|hJ true _ _ ⟨J,J⟩
 refine Bi (t:=10) hb1 J<|Al 3 [] [(13,(.I (IntKind.wrap .i64 (many - 1)))),(11,(.I id))] ?_
 refine Bn [(.I id),(.I 0),(.I (IntKind.wrap .i64 (many - 1)))] J (Ej (tj:=10) J J) J J ((C9 id 0 (IntKind.wrap .i64 (many - 1))) _) (fun v _=>Bp Try.func28 hI) fun r1 _=>Al 2 [] [(16,(.bool (!r1)))] ?_
 refine Bz<|C4 [(0,(.I id)),(1,(.I many)),(4,(.q ids 0 g)),(16,(.bool (!r1)))] (FI J)<|hJ (!r1) _ _ ⟨J,J⟩
theorem D9 (ok:Bool)(e:Int):CP Try.prog 37 [(.bool ok),(.int .i64 e)] (Bm ok e) (fun(_:Unit)=>AV.tup []):=by
 refine Db (n:=9) 0 Try.func37 J (by decide) J J fun h0 ids hI=>B4 (Ax (Bm.eq_1 _ _) ?_)
 refine Ab<|Y<|Al 2 [] [(5,(.bool (!ok)))] ?_
 refine Ad<|Lm J (fun hc=>?_) (fun hc=>?_)
 ·refine Bl<|Afe (a:=()) (vs:=[]) Try.func37 hI J (.tupL .nil)
 refine Y<|Al 3 [] [(8,(.iface 105 (.agg [(.I e)])))] ?_
 exact Aee (v:=⟨105,.one .i64 e⟩) J J (Bp Try.func37 hI)
theorem Vn (l:List Record)(term:Int):CP Try.prog 45 [(.sl 2 (List.map Ak l)),(.int .i64 term)] (Hs l term) (fun(x:Bool)=>(AV.bool x)):=by
 refine Db (n:=35) 1 Try.func45 J (by decide) J J fun h0 ids hI=>B4 (Ax (Hs.eq_1 _ _) ?_)
 refine Ab<|Y<|Ac (.bool false) J Ap<|Ad<|Ab<|Ab<|Y ?_
 refine Ac (.sl 2 (List.map Ak l)) J Z<|Ac (.I (l.length:Int)) J (By (B5 Bu))<|Ac (.I 0) J Z<|Ad<|Bx<|Ha [(0,(.sl 2 (List.map Ak l))),(1,(.I term)),(7,(.sl 2 (List.map Ak l))),(8,(.I (l.length:Int))),(9,(.I 0))] (FI J)<|Qw (P:=Try.prog) l (fun j a=>fun _=>O9 l term j a) ((G9 (fun _=>.ok true) (fun r=>.ok r)):(Unit ⊕ Bool)→R Bool) (fun j=>fun _=>fun(fr:Nat→AV) (h:Ag)=>fr=A0 [(0,(.sl 2 (List.map Ak l))),(1,(.I term)),(7,(.sl 2 (List.map Ak l))),(8,(.I (l.length:Int))),(9,(.I (j:Int)))]∧h=hp h0 ids [none]) () ?_ ?_ ?_
 ·exact⟨J,J⟩
 ·rintro j a ha W hW _ fr h ⟨rfl,rfl⟩
  refine Ax (m':=O9 l term j a) J (Ax (O9.eq_1 _ _ _ _) ?_)
  refine Ab<|Y<|Ac (.bool (decide ((j:Int)<(l.length:Int)))) J (Bk J J J)<|Ad<|Ab<|Ll (t:=0) (L:=l) J fun hlim=>Hp J (Int.ofNat_lt.2 (Cc ha)) ?_
  refine Bl<|Ab<|Bx<|Ab<|Y<|Ac (.I (j:Int)) J Z<|Ac (.cp (Ak a) 0) J (Bq (Nv Bu Ds J ha)) ?_
  refine Ac (.agg (Ak a)) J (Af (Dd Ds J))<|Ch (j:=0) hI J J J J Ds J fun g=>Ac (.I (j:Int)) J Ap<|Bc (A8 (v:=(.agg (Ak a))) hI J J J J Ds J J J J J)<|Ad<|Ay ?_
  refine Ab<|D4 (fun x1=>Mp x1) (fun x1=>fun(fr:Nat→AV) (h:Ag)=>fr=A0 [(0,(.sl 2 (List.map Ak l))),(1,(.I term)),(7,(.sl 2 (List.map Ak l))),(8,(.I (l.length:Int))),(9,(.I (j:Int))),(33,(.bool x1))]∧h=hp h0 ids [none]) ?_ fun hJ=>?_
  ·rintro x1 fr h ⟨rfl,rfl⟩
   refine Ax (Mp.eq_1 _)<|Cn J (fun hc=>?_) (fun hc=>?_)
   ·refine Ab<|Y<|Ac (.bool false) J Ap<|Ad<|Sa<|Ps<|Ca (a:=false) (vs:=[(.bool false)]) Try.func45 hI J (.same _)
   refine Bl<|B0<|Y<|Al 2 [] [(9,(.I (IntKind.wrap .i64 ((j:Int)+1))))] ?_
   refine Ad<|Bt (R1 (hW () _ _ ⟨J,J⟩)) (.cons J (.cons J (.cons J (.cons J (.cons (H5 (Cc ha) hlim) .nil)))))
  refine B2 Da [[],[0],[],[0,1,2],[0,1,2,3],[0,1,2,3,4],[0,1,2,3,4,5],[0,1,2,3,4,5,6],[0,1,2,3,4,5,6,7],[0,1,2,3,4,5,6,7,8],[0,1,2,3,4,5,6,7,8],[0,1,2,3,4,5,6,7,8,10],[0,1,2,3,4,5,6,7,8,9,10,11],[0,1,2,3,4,5,6,7,8,9,10,11,12],[0,1,2,3,4,5,6,7,8,9,10,11,12,13],[0,1,2,3,4,5,6,7,8],[0,1,2,3,4,5,6,7,8,15],[0,1,2,3,4,5,6,7,8,9,10,11,12,13,14,15,16],[0,1,2,3,4,5,6,7,8,9,10,11,12,13,14,15,16,17],[0,1,2,3,4,5,6,7,8,9,10,11,12,13,14,15,16,17,18]] [(false,0),(false,1),(false,2),(true,3),(false,4),(false,5),(false,6),(false,7),(false,8),(false,9),(false,10),(false,11),(false,12),(false,13),(false,14),(false,15),(false,16),(false,17),(false,18),(false,19)] (by kernel_rfl)<|O (.q ids 0 g) J J (Ae (Ai 0 0 0 Ds J Aq J))<|O (.I a.Term) J J (Af (Ah hI J J J Aq J))<|O (.I term) J J Z<|Dx [(.I a.Term),(.I 1),(.I term)] J J J J J ((C9 a.Term 1 term) _) (fun v _ _ _=>Bp Try.func45 hI) (A9 J (Au J Ao)) fun r _=>O (.bool (!r)) J J (Pz J)<|O (.bool (!r)) J J Z ?_
  refine Hk (fun hb=>?_) (fun hb=>?_)
  ·refine A4 (tj:=19) (b:=true) J J (congrArg AV.bool hb) J J<|A4 (tj:=19) (b:=true) J J (congrArg AV.bool hb) J J<|A4 (tj:=19) (b:=true) J J (congrArg AV.bool hb) J J<|Fk (tj:=22) J J J J<|Fk (tj:=22) J J J J<|Fk (tj:=22) J J J J<|Fk (tj:=22) J J J J ?_
   refine Fk (tj:=22) J J J J<|Fk (tj:=22) J J J J<|Fk (tj:=22) J J J J<|Fk (tj:=22) J J J J<|Fk (tj:=22) J J J J<|A4 (tj:=19) (b:=true) J J (congrArg AV.bool hb) J J<|O (.bool true) J J (B9 (t:=true) (congrArg AV.bool hb) J) ?_
   refine Bh<|D3 [none] hI J (.drop .nil)<|Bt (hJ true _ _ ⟨J,J⟩)
  refine Az (tj:=19) (.I (j:Int)) J J (congrArg AV.bool hb) J Z<|Az (tj:=19) (.bool (decide ((j:Int) > 0))) J J (congrArg AV.bool hb) J (Bk J J J)<|Az (tj:=19) (.bool (decide ((j:Int) > 0))) J J (congrArg AV.bool hb) J Z<|Hk (fun hb1=>?_) (fun hb1=>?_)
  ·refine Az (tj:=22) (.sl 2 (List.map Ak l)) J J (congrArg AV.bool hb1) J Z<|Az (tj:=22) (.I (j:Int)) J J (congrArg AV.bool hb1) J Z<|Az (tj:=22) (.I (IntKind.wrap .i64 ((j:Int) - 1))) J J (congrArg AV.bool hb1) J (Bk J J J)<|Gq fun a1 hz hx1=>Az (tj:=22) (.cp (Ak a1) 0) J J (congrArg AV.bool hb1) J (Bq (Ik Bu Ds J hz hx1))<|Az (tj:=22) (.cp (Ak a1) 0) J J (congrArg AV.bool hb1) J (Ae (F3 (c:=0) (off:=0) (i:=0) Ds J Aq J))<|Az (tj:=22) (.I a1.Term) J J (congrArg AV.bool hb1) J (Af (Dd Aq J)) ?_
   refine Az (tj:=22) (.q ids 0 g) J J (congrArg AV.bool hb1) J (Ae (Ai 0 0 0 Ds J Aq J))<|Az (tj:=22) (.I a.Term) J J (congrArg AV.bool hb1) J (Af (Ah hI J J J Aq J))<|Az (tj:=22) (.bool (decide (a1.Term > a.Term))) J J (congrArg AV.bool hb1) J (Bk J J J)<|Az (tj:=19) (.bool (decide (a1.Term > a.Term))) J J (congrArg AV.bool hb) J (B9 (t:=true) (congrArg AV.bool hb1) J)<|O (.bool (decide (a1.Term > a.Term))) J J (B9 (t:=false) (congrArg AV.bool hb) J)<|Bh<|D3 [none] hI J (.drop .nil) ?_
   exact Bt (hJ (decide (a1.Term > a.Term)) _ _ ⟨J,J⟩)
  refine A4 (tj:=22) (b:=false) J J (congrArg AV.bool hb1) J J<|A4 (tj:=22) (b:=false) J J (congrArg AV.bool hb1) J J<|A4 (tj:=22) (b:=false) J J (congrArg AV.bool hb1) J J<|A4 (tj:=22) (b:=false) J J (congrArg AV.bool hb1) J J<|A4 (tj:=22) (b:=false) J J (congrArg AV.bool hb1) J J<|A4 (tj:=22) (b:=false) J J (congrArg AV.bool hb1) J J<|A4 (tj:=22) (b:=false) J J (congrArg AV.bool hb1) J J ?_
  refine A4 (tj:=22) (b:=false) J J (congrArg AV.bool hb1) J J<|A4 (tj:=22) (b:=false) J J (congrArg AV.bool hb1) J J<|Az (tj:=19) (.bool false) J J (congrArg AV.bool hb) J (B9 (t:=false) (congrArg AV.bool hb1) J)<|O (.bool false) J J (B9 (t:=false) (congrArg AV.bool hb) J)<|Bh<|D3 [none] hI J (.drop .nil)<|Bt (hJ false _ _ ⟨J,J⟩)
 rintro _ fr h ⟨rfl,rfl⟩
 refine Ax (Sd _ _ _)<|Ab<|Y<|Ac (.bool (decide ((l.length:Int)<(l.length:Int)))) J (Bk J J J)<|Ad<|Ab<|Ho J (Int.lt_irrefl _) ?_
 refine Fa J<|Ab<|Y<|Ac (.bool true) J Ap<|Ad<|Ca (a:=true) (vs:=[(.bool true)]) Try.func45 hI J (.same _)
theorem Qf (w:AV):CP Try.prog 35 [.nili,w] (Iy) (fun(_:Unit)=>AV.tup []):=by
 refine Db (n:=17) 0 Try.func35 J (by decide) J J fun h0 ids hI=>B4 (Ax (Iy.eq_1) ?_)
 refine Ab<|Y<|Ac .nili J Z<|Ad<|Bx<|Ab<|Y ?_
 refine Ac (.bool true) J (Bk J J (Any Aif))<|Ad<|Nl true J<|Y<|Ac .nili J Ap<|Ad<|B0 ?_
 exact Afe (a:=()) (vs:=[]) Try.func35 hI J (.tupL .nil)
theorem W4 (a0:AV)(h:Ag):J1 Try.prog 52 [a0] .ret h (R6 (fun _:Unit=>h) .ret (.ok ())):=by
 refine Pw (n:=3) Try.func52 J (by decide) J J ?_ ⟨(),J⟩
 refine B4 (Ax (m':=(Iy).bind fun _ =>   .ok ()) J ?_)
 refine Y<|Ze J<|Bn [.nili,a0] J J J J ((Qf a0) _) (fun v hv=>by unfold Iy at hv; cases hv) fun _ _=>?_
 refine Ad<|Q7 Try.func52 J J J
theorem O5 (p:T104)(h0:Ag)(o0:Nat)(r:List AV)(g:Nat)(hr:r.length=1)(hI0:Ids h0 [o0] 1):Ex p≠.bad→Bw Try.prog 35 [(.iface 105 (.agg (Abk p))),(.ptr o0 g 0 0)] (hp h0 [o0] [some (.rows g 1 [r])]) (Ec (fun a_ v h'=>v=(.tup [])∧h'=hp h0 [o0] [some (.rows g 1 [[(.int .i64 p.fE)]])]) h0 (Ex p)):=by
 refine Cp (n:=17) 1 Try.func35 J (by decide) J J hI0 J fun ids he hI=>?_
 clear hI0
 obtain rfl:ix ids 0=o0:=he 0 rfl
 clear he
 refine B4 (Ax (Ex.eq_1 _) ?_)
 refine Ay ?_
 refine Ab<|Y<|Ac (.iface 105 (.agg (Abk p))) J Z<|Ad<|Bx<|Ab<|Y ?_
 refine Ac (.bool false) J (Bk J J (Amr Aif))<|Ad<|Nl false J<|Ab<|Y<|Ac (.tup [(.agg (Abk p)),(.bool true)]) J (Air (Anp Aia (by decide)))<|Al 2 [] [(12,(.agg (Abk p))),(11,(.bool true))] ?_
 refine Ad<|Nl true J<|Ab<|Y<|Ch (j:=1) hI J J J J Aia J fun g1=>Bc (A8 (v:=(.agg (Abk p))) hI J J J J Aia J J J J J)<|Ad ?_
 refine Ay ?_
 refine Y<|Al 4 [1] [(16,(.q ids 0 g)),(15,(.I p.fE))] ?_
 refine Bc (Zc (v:=(.I p.fE)) hI J J J Hg J J J hr J)<|Ad<|Ay ?_
 refine B0<|Fm (K:=1) (N:=1) (a:=()) (vs:=[]) [some (.rows g 1 [[(.I p.fE)]])] Try.func35 hI J J J (.keep (.drop .nil)) (.same _) ⟨J,J⟩
theorem Tn (n:Int)(h0:Ag)(ids:List Nat)(hI:Ids h0 ids 1)(g0_:Nat)(r0_:List AV)(hr0_:r0_.length=1):(∃ a,Fi n=.ok a)→J1 Try.prog 52 [(.ptr (ix ids 0) g0_ 0 0)] (.pan (.iface 105 (.agg [.int .i64 n])) false) (hp h0 ids [some (.rows g0_ 1 [r0_])]) (R6 (fun p=>hp h0 ids [some (.rows g0_ 1 [[(.int .i64 p)]])]) (.pan (.iface 105 (.agg [.int .i64 n])) true) (Fi n)):=by
 refine Pw (n:=3) Try.func52 J (by decide) J J<|B4 (Ax (Fi.eq_1 _) ?_)
 refine Y<|Zb J<|Cg [0] hI J J (O5 ({ fE:=n }:T104) _ (ix ids 0) r0_ g0_ hr0_ (by exact hI.sub' J J)) J J J J J J (fun v hv=>by unfold Ex at hv; cases hv) ?_
 rintro _ _ _ _ ⟨rfl,rfl⟩
 refine Dr [0] hI J J J ?_
 refine Cw<|Ad<|Ay ?_
 exact Q7 (a:=(({ fE:=n }:T104).fE)) Try.func52 J J J
theorem Lw (r:Replica):CP Try.prog 22 [(.agg (A3 r))] (Gl r) (fun(x:Int)=>(AV.int .i64 x)):=by
 show CP _ _ _ ((Rc r).catch' (H9 105 .i64 (fun n=>(Fi n).bind fun p=>.ok p) (fun _=>.bad))) _
 refine Vk (n:=121) 2 Try.func22 J (by decide) J J fun h0 ids hI=>?_
 have hU : ∀ (v:PV) (fr:Nat→AV) (xs:List (Option AO)) (g0_:Nat) (r0_:List AV) (hl_:xs.length=2) (hr0_:r0_.length=1) (hy_:xs.take 1=[some (.rows g0_ 1 [r0_])]) (hq2_:fr 2=.q ids 0 g0_),WU Try.prog 22 121 false (N8 (fun(x:Int)=>(AV.I x)) h0 (H9 105 .i64 (fun n=>(Fi n).bind fun p=>.ok p) (fun _=>.bad))) (.pan v) (.pan v.av false) fr [⟨52,[.q ids 0 g0_]⟩] (hp h0 ids xs) .ret:=by
  intro v fr xs g0_ r0_ hl_ hr0_ hy_ hq2_
  refine Aie (t:=105) (k1:=.i64) J (fun n hv=>?_) (fun hne105=>?_)
  ·subst hv
   exact Xe (Hc:=Fi n) (fin:=fun p=>p) (c:=1) (cells:=fun p=>[some (.rows g0_ 1 [[(.I p)]])]) (vs:=fun p=>[(.I p)]) Try.func22 hI hl_ J hy_ (by first | (rw [Q9]; done) | (rw [Q9]; rfl)) (fun hx=>by have:=Tn n h0 (ids.take 1) (hI.take J) g0_ r0_ hr0_ hx; simp only [Mi (c:=1) (j:=0) J] at this; exact this) (by intro w; simp [Fi,Ex]) (fun p=>(Oc hq2_ (R9 (hI.take J) (Mi J) J J J Hg J) Cq)) (fun p=>(.same _))
  exact Aea (by rw [Yn hne105])
 refine B4 (Ax (Rc.eq_1 _) ?_)
 refine Ab<|Y<|Dg (v:=(.agg (A3 r))) (j:=1) hI J J J J J J J fun g=>Ch (j:=0) hI J J J J Hg J fun g1=>Ad<|Ay ?_
 refine Ab<|Y<|Ac (.func (.func 52) [] [(.q ids 0 g1)]) J Zh<|Xo J J J ?_
 refine Ad<|Ab<|Y<|Al 2 [1] [(7,(.I r.Many))] ?_
 refine Bn [(.I r.Many),(.I 1),(.I 5)] J J J J ((C9 r.Many 1 5) _) (fun v _=>hU v _ _ _ _ J J J J) fun r1 _=>Ac (.bool r1) J Z<|Ed 7 ((fun(b:Bool)=>(if b then(Bv r.Term 0 1048576).bind fun r3=>R.ok r3 else R.ok false).bind (fun(b1:Bool)=>(if b1 then(Bv r.Vote (-1) (IntKind.wrap .i64 (r.Many - 1))).bind fun r4=>R.ok r4 else R.ok false).bind (fun(b2:Bool)=>(Bm b2 470).bind fun _=>(Hs r.Log r.Term).bind fun r6=>(if r6 then(Bv r.Role 0 2).bind fun r7=>R.ok r7 else R.ok false).bind (fun(b3:Bool)=>(if b3 then(Bv r.Commit 0 (r.Log.length:Int)).bind fun r8=>R.ok r8 else R.ok false).bind (fun(b4:Bool)=>(Bm ((b4&&((r.Votes.length:Int)==r.Many))&&((r.Match.length:Int)==r.Many)) 470).bind fun _=>(E3 (fun j a=>fun _=>Gy r j a) 0 r.Match ()).bind ((fun _=>(if(r.Role==0) then R.ok true else(if((r.Vote==r.ID)&&(decide (r.Term≥1))) then(Cd r.Votes r.ID).bind fun a2=>R.ok a2 else R.ok false).bind (fun(b8:Bool)=>R.ok b8)).bind (fun(b7:Bool)=>(Bm b7 470).bind fun _=>.ok 0)))))))):Bool→R Int) (fun(b:Bool) (fr:Nat→AV) (h:Ag)=>fr=A0 [(1,(.q ids 1 g)),(2,(.q ids 0 g1)),(16,(.bool b))]∧h=hp h0 ids [(some (.rows g1 1 [[(.I 0)]])),(some (.rows g 9 [(A3 r)]))]) ?_ fun hJ=>E4 (fun hb1=>?_) (fun hb1=>?_)
 ·rintro b fr h ⟨rfl,rfl⟩
  refine Ac (.bool b) J Z<|Ed 4 ((fun(b1:Bool)=>(if b1 then(Bv r.Vote (-1) (IntKind.wrap .i64 (r.Many - 1))).bind fun r4=>R.ok r4 else R.ok false).bind (fun(b2:Bool)=>(Bm b2 470).bind fun _=>(Hs r.Log r.Term).bind fun r6=>(if r6 then(Bv r.Role 0 2).bind fun r7=>R.ok r7 else R.ok false).bind (fun(b3:Bool)=>(if b3 then(Bv r.Commit 0 (r.Log.length:Int)).bind fun r8=>R.ok r8 else R.ok false).bind (fun(b4:Bool)=>(Bm ((b4&&((r.Votes.length:Int)==r.Many))&&((r.Match.length:Int)==r.Many)) 470).bind fun _=>(E3 (fun j a=>fun _=>Gy r j a) 0 r.Match ()).bind ((fun _=>(if(r.Role==0) then R.ok true else(if((r.Vote==r.ID)&&(decide (r.Term≥1))) then(Cd r.Votes r.ID).bind fun a2=>R.ok a2 else R.ok false).bind (fun(b8:Bool)=>R.ok b8)).bind (fun(b7:Bool)=>(Bm b7 470).bind fun _=>.ok 0))))))):Bool→R Int) (fun(b1:Bool) (fr:Nat→AV) (h:Ag)=>fr=A0 [(1,(.q ids 1 g)),(2,(.q ids 0 g1)),(21,(.bool b1))]∧h=hp h0 ids [(some (.rows g1 1 [[(.I 0)]])),(some (.rows g 9 [(A3 r)]))]) ?_ fun hJ1=>E4 (fun hb3=>?_) (fun hb3=>?_)
  ·rintro b1 fr h ⟨rfl,rfl⟩
   refine Ac (.bool b1) J Z<|Ed 7 ((fun(b2:Bool)=>(Bm b2 470).bind fun _=>(Hs r.Log r.Term).bind fun r6=>(if r6 then(Bv r.Role 0 2).bind fun r7=>R.ok r7 else R.ok false).bind (fun(b3:Bool)=>(if b3 then(Bv r.Commit 0 (r.Log.length:Int)).bind fun r8=>R.ok r8 else R.ok false).bind (fun(b4:Bool)=>(Bm ((b4&&((r.Votes.length:Int)==r.Many))&&((r.Match.length:Int)==r.Many)) 470).bind fun _=>(E3 (fun j a=>fun _=>Gy r j a) 0 r.Match ()).bind ((fun _=>(if(r.Role==0) then R.ok true else(if((r.Vote==r.ID)&&(decide (r.Term≥1))) then(Cd r.Votes r.ID).bind fun a2=>R.ok a2 else R.ok false).bind (fun(b8:Bool)=>R.ok b8)).bind (fun(b7:Bool)=>(Bm b7 470).bind fun _=>.ok 0)))))):Bool→R Int) (fun(b2:Bool) (fr:Nat→AV) (h:Ag)=>fr=A0 [(1,(.q ids 1 g)),(2,(.q ids 0 g1)),(29,(.bool b2))]∧h=hp h0 ids [(some (.rows g1 1 [[(.I 0)]])),(some (.rows g 9 [(A3 r)]))]) ?_ fun hJ2=>E4 (fun hb5=>?_) (fun hb5=>?_)
   ·rintro b2 fr h ⟨rfl,rfl⟩
    refine Bn [(.bool b2),(.I 470)] J J J J ((D9 b2 470) _) (fun v _=>hU v _ _ _ _ J J J J) fun _ _=>Ad<|Ab<|Y<|Al 4 [1,1] [(34,(.I r.Term)),(32,(.sl 2 (List.map Ak r.Log)))] ?_
    refine Bn [(.sl 2 (List.map Ak r.Log)),(.I r.Term)] J J J J ((Vn r.Log r.Term) _) (fun v _=>hU v _ _ _ _ J J J J) fun r6 _=>Ac (.bool r6) J Z<|Ed 4 ((fun(b3:Bool)=>(if b3 then(Bv r.Commit 0 (r.Log.length:Int)).bind fun r8=>R.ok r8 else R.ok false).bind (fun(b4:Bool)=>(Bm ((b4&&((r.Votes.length:Int)==r.Many))&&((r.Match.length:Int)==r.Many)) 470).bind fun _=>(E3 (fun j a=>fun _=>Gy r j a) 0 r.Match ()).bind ((fun _=>(if(r.Role==0) then R.ok true else(if((r.Vote==r.ID)&&(decide (r.Term≥1))) then(Cd r.Votes r.ID).bind fun a2=>R.ok a2 else R.ok false).bind (fun(b8:Bool)=>R.ok b8)).bind (fun(b7:Bool)=>(Bm b7 470).bind fun _=>.ok 0))))):Bool→R Int) (fun(b3:Bool) (fr:Nat→AV) (h:Ag)=>fr=A0 [(1,(.q ids 1 g)),(2,(.q ids 0 g1)),(40,(.bool b3))]∧h=hp h0 ids [(some (.rows g1 1 [[(.I 0)]])),(some (.rows g 9 [(A3 r)]))]) ?_ fun hJ3=>E4 (fun hb7=>?_) (fun hb7=>?_)
    ·rintro b3 fr h ⟨rfl,rfl⟩
     refine Ac (.bool b3) J Z<|Ed 7 ((fun(b4:Bool)=>(Bm ((b4&&((r.Votes.length:Int)==r.Many))&&((r.Match.length:Int)==r.Many)) 470).bind fun _=>(E3 (fun j a=>fun _=>Gy r j a) 0 r.Match ()).bind ((fun _=>(if(r.Role==0) then R.ok true else(if((r.Vote==r.ID)&&(decide (r.Term≥1))) then(Cd r.Votes r.ID).bind fun a2=>R.ok a2 else R.ok false).bind (fun(b8:Bool)=>R.ok b8)).bind (fun(b7:Bool)=>(Bm b7 470).bind fun _=>.ok 0)))):Bool→R Int) (fun(b4:Bool) (fr:Nat→AV) (h:Ag)=>fr=A0 [(1,(.q ids 1 g)),(2,(.q ids 0 g1)),(48,(.bool b4))]∧h=hp h0 ids [(some (.rows g1 1 [[(.I 0)]])),(some (.rows g 9 [(A3 r)]))]) ?_ fun hJ4=>E4 (fun hb9=>?_) (fun hb9=>?_)
     ·rintro b4 fr h ⟨rfl,rfl⟩
      refine Ac (.bool b4) J Z<|Ce 7 [(1,(.q ids 1 g)),(2,(.q ids 0 g1)),(56,(.bool (b4&&((r.Votes.length:Int)==r.Many))))] ?_ fun hJ5=>B3 b4 (fun hb11=>?_) (fun hb11=>?_)
      ·refine Ac (.bool (b4&&((r.Votes.length:Int)==r.Many))) J Z<|Ce 7 [(1,(.q ids 1 g)),(2,(.q ids 0 g1)),(64,(.bool ((b4&&((r.Votes.length:Int)==r.Many))&&((r.Match.length:Int)==r.Many))))] ?_ fun hJ6=>B3 (b4&&((r.Votes.length:Int)==r.Many)) (fun hb13=>?_) (fun hb13=>?_)
       ·refine Bn [(.bool ((b4&&((r.Votes.length:Int)==r.Many))&&((r.Match.length:Int)==r.Many))),(.I 470)] J J J J ((D9 ((b4&&((r.Votes.length:Int)==r.Many))&&((r.Match.length:Int)==r.Many)) 470) _) (fun v _=>hU v _ _ _ _ J J J J) fun _ _=>Ad<|Ab<|Ab<|Y<|Al 2 [1] [(67,(.sl 1 (List.map (rI .i64) r.Match)))] ?_
        refine Ac (.I (r.Match.length:Int)) J (By (B5 Cm))<|Ac (.I 0) J Z<|Ad<|Bx<|Ha [(1,(.q ids 1 g)),(2,(.q ids 0 g1)),(67,(.sl 1 (List.map (rI .i64) r.Match))),(68,(.I (r.Match.length:Int))),(69,(.I 0))] (FI J)<|Lc (P:=Try.prog) r.Match (fun j a=>fun _=>Gy r j a) (((fun _=>(if(r.Role==0) then R.ok true else(if((r.Vote==r.ID)&&(decide (r.Term≥1))) then(Cd r.Votes r.ID).bind fun a2=>R.ok a2 else R.ok false).bind (fun(b8:Bool)=>R.ok b8)).bind (fun(b7:Bool)=>(Bm b7 470).bind fun _=>.ok 0))):Unit→R Int) (fun j=>fun _=>fun(fr:Nat→AV) (h:Ag)=>fr=A0 [(1,(.q ids 1 g)),(2,(.q ids 0 g1)),(67,(.sl 1 (List.map (rI .i64) r.Match))),(68,(.I (r.Match.length:Int))),(69,(.I (j:Int)))]∧h=hp h0 ids [(some (.rows g1 1 [[(.I 0)]])),(some (.rows g 9 [(A3 r)]))]) () ?_ ?_ ?_
        ·exact⟨J,J⟩
        ·rintro j a ha W hW _ fr h ⟨rfl,rfl⟩
         refine Ax (m':=Gy r j a) J (Ax (Gy.eq_1 _ _ _) ?_)
         refine Ab<|Y<|Ac (.bool (decide ((j:Int)<(r.Match.length:Int)))) J (Bk J J J)<|Ad<|Ab<|Ll (t:=67) (L:=r.Match) J fun hlim=>Hp J (Int.ofNat_lt.2 (Cc ha)) ?_
         refine Bl<|Ab<|Bx<|Ab<|Y<|Ac (.I (j:Int)) J Z<|Ac (.cp [(.I a)] 0) J (Bq (Nv Cm Aq J ha)) ?_
         refine Al 3 [] [(4,(.I a)),(3,(.I (j:Int)))] ?_
         refine Ad<|Ab<|Y<|Al 3 [1] [(76,(.sl 2 (List.map Ak r.Log))),(74,(.I a))] ?_
         refine Ac (.I (r.Log.length:Int)) J (By (B5 Bu))<|Bn [(.I a),(.I 0),(.I (r.Log.length:Int))] J J J J ((C9 a 0 (r.Log.length:Int)) _) (fun v _=>hU v _ _ _ _ J J J J) fun r10 _=>Bn [(.bool r10),(.I 470)] J J J J ((D9 r10 470) _) (fun v _=>hU v _ _ _ _ J J J J) fun _ _=>Ad<|Y<|Al 4 [1] [(83,(.bool (r.Role != 0)))] ?_
         refine Ed 11 ((fun(b5:Bool)=>(Bm b5 470).bind fun _=>.ok ()):Bool→R Unit) (fun(b5:Bool) (fr:Nat→AV) (h:Ag)=>fr=A0 [(1,(.q ids 1 g)),(2,(.q ids 0 g1)),(67,(.sl 1 (List.map (rI .i64) r.Match))),(68,(.I (r.Match.length:Int))),(69,(.I (j:Int))),(94,(.bool b5))]∧h=hp h0 ids [(some (.rows g1 1 [[(.I 0)]])),(some (.rows g 9 [(A3 r)]))]) ?_ fun hJ7=>E4 (fun hb15=>?_) (fun hb15=>?_)
         ·rintro b5 fr h ⟨rfl,rfl⟩
          refine Bn [(.bool b5),(.I 470)] J J J J ((D9 b5 470) _) (fun v _=>hU v _ _ _ _ J J J J) fun _ _=>Ad<|B0<|Y<|Al 2 [] [(69,(.I (IntKind.wrap .i64 ((j:Int)+1))))] ?_
          refine Ad<|Bt (Qu (hW () _ _ ⟨J,J⟩)) (.cons J (.cons J (.cons J (.cons J (.cons (H5 (Cc ha) hlim) .nil)))))
         ·refine Bi (t:=83) hb15 J<|Al 11 [] [(94,(.bool true)),(93,.und),(92,.und),(91,.und),(90,.und),(89,.und),(88,.und),(87,.und),(86,.und),(85,.und),(84,.und)] ?_
          refine Bz<|C4 [(1,(.q ids 1 g)),(2,(.q ids 0 g1)),(67,(.sl 1 (List.map (rI .i64) r.Match))),(68,(.I (r.Match.length:Int))),(69,(.I (j:Int))),(94,(.bool true))] (FI J)<|hJ7 true _ _ ⟨J,J⟩
         refine Bi (t:=83) hb15 J<|Al 3 [] [(86,(.bool (a==0))),(85,(.bool (a==0))),(84,(.I a))] ?_
         refine Ed 7 ((fun(b6:Bool)=>R.ok b6):Bool→R Bool) (fun(b6:Bool) (fr:Nat→AV) (h:Ag)=>fr=A0 [(1,(.q ids 1 g)),(2,(.q ids 0 g1)),(67,(.sl 1 (List.map (rI .i64) r.Match))),(68,(.I (r.Match.length:Int))),(69,(.I (j:Int))),(83,(.bool false)),(84,(.I a)),(85,(.bool (a==0))),(86,(.bool (a==0))),(93,(.bool b6))]∧h=hp h0 ids [(some (.rows g1 1 [[(.I 0)]])),(some (.rows g 9 [(A3 r)]))]) ?_ fun hJ8=>E4 (fun hb17=>?_) (fun hb17=>?_)
         ·rintro b6 fr h ⟨rfl,rfl⟩
          refine Ac (.bool b6) J (B9 (t:=false) J J)<|Bz<|C4 [(1,(.q ids 1 g)),(2,(.q ids 0 g1)),(67,(.sl 1 (List.map (rI .i64) r.Match))),(68,(.I (r.Match.length:Int))),(69,(.I (j:Int))),(94,(.bool b6))] (FI J)<|hJ7 b6 _ _ ⟨J,J⟩
         ·refine Bi (t:=86) hb17 J<|Al 3 [1] [(89,(.I (j:Int))),(88,(.sl 1 (List.map rB r.Votes))),(87,(.ptr (ix ids 1) g 0 7))] ?_
          refine Hh fun a1 hz hx1=>Ck (tj:=86) (.cp [(.bool a1)] 0) J J J (Bq (Ik Dm Hf J hz hx1))<|Al 3 [] [(93,(.bool (!a1))),(92,(.bool (!a1))),(91,(.bool a1))] ?_
          refine Bz<|C4 [(1,(.q ids 1 g)),(2,(.q ids 0 g1)),(67,(.sl 1 (List.map (rI .i64) r.Match))),(68,(.I (r.Match.length:Int))),(69,(.I (j:Int))),(83,(.bool false)),(84,(.I a)),(85,(.bool (a==0))),(86,(.bool (a==0))),(93,(.bool (!a1)))] (.cons J (.cons J (.cons J (.cons J (.cons J (.cons J (.cons J (.cons J (.cons (congrArg AV.bool hb17.symm) (FI J))))))))))<|hJ8 (!a1) _ _ ⟨J,J⟩
         refine Bi (t:=86) hb17 J<|Al 7 [] [(93,(.bool false)),(92,.und),(91,.und),(90,.und),(89,.und),(88,.und),(87,.und)] ?_
         refine Bz<|C4 [(1,(.q ids 1 g)),(2,(.q ids 0 g1)),(67,(.sl 1 (List.map (rI .i64) r.Match))),(68,(.I (r.Match.length:Int))),(69,(.I (j:Int))),(83,(.bool false)),(84,(.I a)),(85,(.bool (a==0))),(86,(.bool (a==0))),(93,(.bool false))] (.cons J (.cons J (.cons J (.cons J (.cons J (.cons J (.cons J (.cons J (.cons (congrArg AV.bool hb17.symm) (FI J))))))))))<|hJ8 false _ _ ⟨J,J⟩
        rintro _ fr h ⟨rfl,rfl⟩
        refine Ab<|Y<|Ac (.bool (decide ((r.Match.length:Int)<(r.Match.length:Int)))) J (Bk J J J)<|Ad<|Ab<|Ho J (Int.lt_irrefl _)<|Fa J ?_
        refine Ab<|Y<|Al 4 [1] [(100,(.bool (r.Role==0)))] ?_
        refine Ed 19 ((fun(b7:Bool)=>(Bm b7 470).bind fun _=>.ok 0):Bool→R Int) (fun(b7:Bool) (fr:Nat→AV) (h:Ag)=>fr=A0 [(2,(.q ids 0 g1)),(119,(.bool b7))]∧h=hp h0 ids [(some (.rows g1 1 [[(.I 0)]])),(some (.rows g 9 [(A3 r)]))]) ?_ fun hJ9=>E4 (fun hb19=>?_) (fun hb19=>?_)
        ·rintro b7 fr h ⟨rfl,rfl⟩
         refine Bn [(.bool b7),(.I 470)] J J J J ((D9 b7 470) _) (fun v _=>hU v _ _ _ _ J J J J) fun _ _=>Ad<|Ab<|Y<|Bc (A8 (v:=(.I 0)) hI J J J J Hg J J J J J)<|Ad<|P5 (a:=0) (vs:=[(.I 0)]) Try.func22 hI (W4 _ _) (B7 (Ah hI J J J Hg J) Cq) (.same _)
        ·refine Bi (t:=100) hb19 J<|Al 19 [] [(119,(.bool true))] ?_
         refine Bz<|C4 [(2,(.q ids 0 g1)),(119,(.bool true))] (FI J)<|hJ9 true _ _ ⟨J,J⟩
        refine Bi (t:=100) hb19 J<|Al 6 [1,1] [(106,(.bool (r.Vote==r.ID)))] ?_
        refine Ce 4 [(1,(.q ids 1 g)),(2,(.q ids 0 g1)),(100,(.bool false)),(110,(.bool ((r.Vote==r.ID)&&(decide (r.Term≥1)))))] ?_ fun hJ10=>B3 (r.Vote==r.ID) (fun hb21=>?_) (fun hb21=>?_)
        ·refine Ck (tj:=100) (.bool ((r.Vote==r.ID)&&(decide (r.Term≥1)))) J J J Z<|Ed 7 ((fun(b8:Bool)=>R.ok b8):Bool→R Bool) (fun(b8:Bool) (fr:Nat→AV) (h:Ag)=>fr=A0 [(2,(.q ids 0 g1)),(100,(.bool false)),(118,(.bool b8))]∧h=hp h0 ids [(some (.rows g1 1 [[(.I 0)]])),(some (.rows g 9 [(A3 r)]))]) ?_ fun hJ11=>E4 (fun hb23=>?_) (fun hb23=>?_)
         ·rintro b8 fr h ⟨rfl,rfl⟩
          refine Ac (.bool b8) J (B9 (t:=false) J J)<|Bz<|C4 [(2,(.q ids 0 g1)),(119,(.bool b8))] (FI J)<|hJ9 b8 _ _ ⟨J,J⟩
         ·refine Bi (t:=111) hb23 J<|Al 4 [1,1] [(115,(.I r.ID)),(113,(.sl 1 (List.map rB r.Votes)))] ?_
          refine Hh fun a2 hz1 hx2=>Ck (tj:=111) (.cp [(.bool a2)] 0) J J J (Bq (Ik Dm Hf J hz1 hx2))<|Al 2 [] [(118,(.bool a2))] ?_
          refine Bz<|C4 [(2,(.q ids 0 g1)),(100,(.bool false)),(118,(.bool a2))] (FI J)<|hJ11 a2 _ _ ⟨J,J⟩
         refine Bi (t:=111) hb23 J<|Al 7 [] [(118,(.bool false))] ?_
         refine Bz<|C4 [(2,(.q ids 0 g1)),(100,(.bool false)),(118,(.bool false))] (FI J)<|hJ11 false _ _ ⟨J,J⟩
        ·refine Bi (t:=106) hb21 J<|Al 4 [1] [(110,(.bool (decide (r.Term≥1))))] ?_
         exact Br hJ10 (.cons J (.cons J (.cons J (.cons (Fs hb21) .nil))))
        refine Bi (t:=106) hb21 J<|Al 4 [] [(110,(.bool false))] ?_
        exact Br hJ10 (.cons J (.cons J (.cons J (.cons (Ft hb21) .nil))))
       ·refine Bi (t:=57) hb13 J<|Al 2 [1] [(59,(.sl 1 (List.map (rI .i64) r.Match)))] ?_
        refine Ck (tj:=57) (.I (r.Match.length:Int)) J J J (By (B5 Cm))<|Al 4 [1] [(64,(.bool ((r.Match.length:Int)==r.Many)))] ?_
        exact Br hJ6 (.cons J (.cons J (.cons (Fs hb13) .nil)))
       refine Bi (t:=57) hb13 J<|Al 7 [] [(64,(.bool false))] ?_
       exact Br hJ6 (.cons J (.cons J (.cons (Ft hb13) .nil)))
      ·refine Bi (t:=49) hb11 J<|Al 2 [1] [(51,(.sl 1 (List.map rB r.Votes)))] ?_
       refine Ck (tj:=49) (.I (r.Votes.length:Int)) J J J (By (B5 Dm))<|Al 4 [1] [(56,(.bool ((r.Votes.length:Int)==r.Many)))] ?_
       exact Br hJ5 (.cons J (.cons J (.cons (Fs hb11) .nil)))
      refine Bi (t:=49) hb11 J<|Al 7 [] [(56,(.bool false))] ?_
      exact Br hJ5 (.cons J (.cons J (.cons (Ft hb11) .nil)))
     ·refine Bi (t:=41) hb9 J<|Al 4 [1,1] [(45,(.sl 2 (List.map Ak r.Log))),(43,(.I r.Commit))] ?_
      refine Ck (tj:=41) (.I (r.Log.length:Int)) J J J (By (B5 Bu))<|Bn [(.I r.Commit),(.I 0),(.I (r.Log.length:Int))] J (Ej (tj:=41) J J) J J ((C9 r.Commit 0 (r.Log.length:Int)) _) (fun v _=>hU v _ _ _ _ J J J J) fun r8 _=>Ac (.bool r8) J (B9 (t:=true) J J)<|Bz<|C4 [(1,(.q ids 1 g)),(2,(.q ids 0 g1)),(48,(.bool r8))] (FI J)<|hJ4 r8 _ _ ⟨J,J⟩
     refine Bi (t:=41) hb9 J<|Al 7 [] [(48,(.bool false))] ?_
     refine Bz<|C4 [(1,(.q ids 1 g)),(2,(.q ids 0 g1)),(48,(.bool false))] (FI J)<|hJ4 false _ _ ⟨J,J⟩
    ·refine Bi (t:=36) hb7 J<|Al 2 [1] [(38,(.I r.Role))] ?_
     refine Bn [(.I r.Role),(.I 0),(.I 2)] J (Ej (tj:=36) J J) J J ((C9 r.Role 0 2) _) (fun v _=>hU v _ _ _ _ J J J J) fun r7 _=>Ac (.bool r7) J (B9 (t:=true) J J)<|Bz<|C4 [(1,(.q ids 1 g)),(2,(.q ids 0 g1)),(40,(.bool r7))] (FI J)<|hJ3 r7 _ _ ⟨J,J⟩
    refine Bi (t:=36) hb7 J<|Al 4 [] [(40,(.bool false))] ?_
    refine Bz<|C4 [(1,(.q ids 1 g)),(2,(.q ids 0 g1)),(40,(.bool false))] (FI J)<|hJ3 false _ _ ⟨J,J⟩
   ·refine Bi (t:=22) hb5 J<|Al 5 [1,1] [(27,(.I (IntKind.wrap .i64 (r.Many - 1)))),(24,(.I r.Vote))] ?_
    refine Bn [(.I r.Vote),(.I (-1)),(.I (IntKind.wrap .i64 (r.Many - 1)))] J (Ej (tj:=22) J J) J J ((C9 r.Vote (-1) (IntKind.wrap .i64 (r.Many - 1))) _) (fun v _=>hU v _ _ _ _ J J J J) fun r4 _=>Ac (.bool r4) J (B9 (t:=true) J J)<|Bz<|C4 [(1,(.q ids 1 g)),(2,(.q ids 0 g1)),(29,(.bool r4))] (FI J)<|hJ2 r4 _ _ ⟨J,J⟩
   refine Bi (t:=22) hb5 J<|Al 7 [] [(29,(.bool false))] ?_
   refine Bz<|C4 [(1,(.q ids 1 g)),(2,(.q ids 0 g1)),(29,(.bool false))] (FI J)<|hJ2 false _ _ ⟨J,J⟩
  ·refine Bi (t:=17) hb3 J<|Al 2 [1] [(19,(.I r.Term))] ?_
   refine Bn [(.I r.Term),(.I 0),(.I 1048576)] J (Ej (tj:=17) J J) J J ((C9 r.Term 0 1048576) _) (fun v _=>hU v _ _ _ _ J J J J) fun r3 _=>Ac (.bool r3) J (B9 (t:=true) J J)<|Bz<|C4 [(1,(.q ids 1 g)),(2,(.q ids 0 g1)),(21,(.bool r3))] (FI J)<|hJ1 r3 _ _ ⟨J,J⟩
  refine Bi (t:=17) hb3 J<|Al 4 [] [(21,(.bool false))] ?_
  refine Bz<|C4 [(1,(.q ids 1 g)),(2,(.q ids 0 g1)),(21,(.bool false))] (FI J)<|hJ1 false _ _ ⟨J,J⟩
 ·refine Bi (t:=9) hb1 J<|Al 5 [1,1] [(14,(.I (IntKind.wrap .i64 (r.Many - 1)))),(11,(.I r.ID))] ?_
  refine Bn [(.I r.ID),(.I 0),(.I (IntKind.wrap .i64 (r.Many - 1)))] J (Ej (tj:=9) J J) J J ((C9 r.ID 0 (IntKind.wrap .i64 (r.Many - 1))) _) (fun v _=>hU v _ _ _ _ J J J J) fun r2 _=>Ac (.bool r2) J (B9 (t:=true) J J)<|Bz<|C4 [(1,(.q ids 1 g)),(2,(.q ids 0 g1)),(16,(.bool r2))] (FI J)<|hJ r2 _ _ ⟨J,J⟩
 refine Bi (t:=9) hb1 J<|Al 7 [] [(16,(.bool false))] ?_
 refine Bz<|C4 [(1,(.q ids 1 g)),(2,(.q ids 0 g1)),(16,(.bool false))] (FI J)<|hJ false _ _ ⟨J,J⟩
theorem Na (r:Replica)(h0:Ag)(o0:Nat)(hI0:Ids h0 [o0] 1):Ew r≠.bad→Bw Try.prog 46 [(.agg (A3 r))] (hp h0 [o0] [none]) (Ec (fun a_ v h' => ∃ (g2:Nat),v=(.ptr o0 g2 0 0)∧h'=hp h0 [o0] [some (.rows g2 10 [[(.int .i64 r.ID),(.int .i64 r.Many),(.int .i64 r.Term),(.int .i64 r.Vote),(.sl 2 (List.map Ak r.Log)),(.int .i64 r.Role),(.int .i64 r.Commit),(.sl 1 (List.map rB r.Votes)),(.sl 1 (List.map (rI .i64) r.Match)),.emp]])]) h0 (Ew r)):=by
 refine Cp (n:=6) 1 Try.func46 J (by decide) J J hI0 J fun ids he hI=>?_
 clear hI0
 obtain rfl:ix ids 0=o0:=he 0 rfl
 clear he
 refine B4 (Ax (Ew.eq_1 _) ?_)
 refine Ay ?_
 refine Ab<|Y<|Dg (v:=(.agg (A3 r))) (j:=1) hI J J J J J J J fun g=>Ac .nilp J Ap<|Ad<|Ay ?_
 refine Ab<|Y<|Al 2 [1] [(4,(.agg [(.I r.ID),(.I r.Many),(.I r.Term),(.I r.Vote),(.sl 2 (List.map Ak r.Log)),(.I r.Role),(.I r.Commit),(.sl 1 (List.map rB r.Votes)),(.sl 1 (List.map (rI .i64) r.Match)),.emp]))] ?_
 refine Dg (v:=(.agg [(.I r.ID),(.I r.Many),(.I r.Term),(.I r.Vote),(.sl 2 (List.map Ak r.Log)),(.I r.Role),(.I r.Commit),(.sl 1 (List.map rB r.Votes)),(.sl 1 (List.map (rI .i64) r.Match)),.emp])) (j:=0) hI J J J J J J J fun g1=>Ac (.q ids 0 g1) J Ap<|Ad<|Ay ?_
 exact D0 (K:=1) (N:=1) (a:=()) (vs:=[(.q ids 0 g1)]) [some (.rows g1 10 [[(.I r.ID),(.I r.Many),(.I r.Term),(.I r.Vote),(.sl 2 (List.map Ak r.Log)),(.I r.Role),(.I r.Commit),(.sl 1 (List.map rB r.Votes)),(.sl 1 (List.map (rI .i64) r.Match)),.emp]])] Try.func46 hI J J J (.keep (.drop .nil)) (.same _) ⟨g1,J,J⟩
theorem Qb (s:List Record):CPO Try.prog 53 [(.sl 2 (List.map Ak s))] (Lz s) 2 Ak:=by
 refine Vm (n:=8) 0 Try.func53 J (by decide) J J fun h0 ids hI=>Qs (Lz.eq_1 _)<|Ab<|Y<|Ac .emp J Ap<|Ad<|Ab ?_
 refine Ab<|Y<|Ac (.sl 2 (List.map Ak s)) J Z<|Acy (L:=s) J Bu J fun c hc=>Ad ?_
 by_cases hl:s.length * 32≤C2
 case neg=>rw [if_neg hl]; exact Af5
 rw [if_pos hl]
 refine Nl c J ?_
 cases c with
 | true=>
  have hs:=hc rfl
  subst hs
  refine Ab<|Y<|Ac .emp J Ap<|Ad<|Sb (a:=[]) (v:=.emp) (g:=0) Try.func53 hI J J .nil J
 | false=>
  refine Bl<|Ab<|Y<|Aga J Bu Ds<|Ac (.sl 2 (List.map Ak s)) J Z<|Kc (e:=Ak) (L:=[]) (L2:=s) (v:=.emp) (g:=0) (st:=2) (j:=0) hI J J J J .nil J (Fr J) Bu Bu J Ds J J J (by simpa using hl) fun v g H=>Ac v J Ap ?_
  refine Ad<|Sb (a:=s) (v:=v) (g:=g) Try.func53 hI J J H J
theorem Rr (s:List Int):CPO Try.prog 54 [(.sl 1 (List.map (rI .i64) s))] (J7 s) 1 (rI .i64):=by
 refine Vm (n:=8) 0 Try.func54 J (by decide) J J fun h0 ids hI=>Qs (J7.eq_1 _)<|Ab<|Y<|Ac .emp J Ap<|Ad<|Ab ?_
 refine Ab<|Y<|Ac (.sl 1 (List.map (rI .i64) s)) J Z<|Acy (L:=s) J Cm J fun c hc=>Ad ?_
 by_cases hl:s.length * 8≤C2
 case neg=>rw [if_neg hl]; exact Af5
 rw [if_pos hl]
 refine Nl c J ?_
 cases c with
 | true=>
  have hs:=hc rfl
  subst hs
  refine Ab<|Y<|Ac .emp J Ap<|Ad<|Sb (a:=[]) (v:=.emp) (g:=0) Try.func54 hI J J .nil J
 | false=>
  refine Bl<|Ab<|Y<|Aga J Cm Aq<|Ac (.sl 1 (List.map (rI .i64) s)) J Z<|Kc (e:=(rI .i64)) (L:=[]) (L2:=s) (v:=.emp) (g:=0) (st:=1) (j:=0) hI J J J J .nil J (Fr J) Cm Cm J Aq J J J (by simpa using hl) fun v g H=>Ac v J Ap ?_
  refine Ad<|Sb (a:=s) (v:=v) (g:=g) Try.func54 hI J J H J
theorem M4 (l:List Int)(h0:Ag)(o0:Nat)(o1:Nat)(v1:AV)(g:Nat)(vH:Bs v1 o0 g l.length)(hI0:Ids h0 [o0,o1] 2):Ff l≠.bad→Bw Try.prog 73 [v1] (hp h0 [o0,o1] [Ba v1 g 1 (List.map (rI .i64) l),none]) (Ec (fun a_ v h' => ∃ (g2:Nat),v=(.func (.func 93) [] [(.ptr o1 g2 0 0)])∧h'=hp h0 [o0,o1] [Ba v1 g 1 (List.map (rI .i64) l),some (.rows g2 1 [[v1]])]) h0 (Ff l)):=by
 refine Cp (n:=4) 0 Try.func73 J (by decide) J J hI0 J fun ids he hI=>?_
 clear hI0
 obtain rfl:ix ids 0=o0:=he 0 rfl
 obtain rfl:ix ids 1=o1:=he 1 rfl
 clear he
 refine B4 (Ax (Ff.eq_1 _) ?_)
 refine Ab<|Y<|Amq (j:=1) vH hI J J J J J fun g1=>Ac .nilf J Ap<|Ad<|Ay ?_
 refine Ab<|Y<|Al 2 [] [(2,(.func (.func 93) [] [(.q ids 1 g1)]))] ?_
 refine Ad<|D0 (K:=2) (N:=0) (a:=()) (vs:=[(.func (.func 93) [] [(.q ids 1 g1)])]) [Ba v1 g 1 (List.map (rI .i64) l),some (.rows g1 1 [[v1]])] Try.func73 hI J J J (.keep (.keep .nil)) (.same _) ⟨g1,J,J⟩
theorem U8 {σ_:Type}(b:List Int)(b_:Int→σ_→R σ_)(St_:σ_→Ag→Prop)(y_:YF)(o_ g_:Nat)(hy_ : ∀ (a0_:Int),YOk Try.prog y_ o_ g_ [(.int .i64 a0_)] St_ (b_ a0_))(hnp_ : ∀ (a0_:Int) (s:σ_) (v:PV),b_ a0_ s≠.pan v)(s_:σ_)(hh_:Ag)(hs_:St_ s_ hh_):K4 b b_ s_≠.bad→Bw Try.prog 93 [(.yld y_ o_ g_),(.cp [(.sl 1 (List.map (rI .i64) b))] 0)] hh_ (Aae St_ (K4 b b_ s_)):=by
 refine Ae5 (n:=16) Try.func93 J (by decide) J J<|B4 (Ax (K4.eq_1 _ _ _) ?_)
 refine Ab<|Y<|Ac (.sl 1 (List.map (rI .i64) b)) J (Af (Dd Cm J))<|Ac (.I (b.length:Int)) J (By (B5 Cm))<|Ac (.I 0) J Z<|Ad<|Bx ?_
 refine Ha [(0,(.yld y_ o_ g_)),(5,(.sl 1 (List.map (rI .i64) b))),(6,(.I (b.length:Int))),(7,(.I 0))] (FI J)<|Lc (P:=Try.prog) b (fun _ a=>fun s=>Jw b_ a s) (((fun s=>.ok s)):σ_→R σ_) (fun j=>fun s=>fun(fr:Nat→AV) (h:Ag) => ∃ (hh:Ag),St_ s hh∧fr=A0 [(0,(.yld y_ o_ g_)),(5,(.sl 1 (List.map (rI .i64) b))),(6,(.I (b.length:Int))),(7,(.I (j:Int)))]∧hh=h) s_ ?_ ?_ ?_
 ·exact⟨_,hs_,J,J⟩
 ·rintro j a ha W hW s fr h ⟨hh,vHs,rfl,rfl⟩
  refine Ax (m':=Jw b_ a s) J (Ax (Jw.eq_1 _ _ _) ?_)
  refine Ab<|Y<|Ac (.bool (decide ((j:Int)<(b.length:Int)))) J (Bk J J J)<|Ad<|Ab<|Ll (t:=5) (L:=b) J fun hlim=>Hp J (Int.ofNat_lt.2 (Cc ha)) ?_
  refine Bl<|Ab<|Bx<|Ab<|Y<|Ac (.cp [(.I a)] 0) J (Bq (Nv Cm Aq J ha))<|Ac (.I a) J (Af (Dd Aq J)) ?_
  refine Ac (.I a) J Ap<|Ad<|Ab<|Y<|Ac (.yld y_ o_ g_) J Z<|Ac (.I a) J Z<|Alf (b:=b_ a) J J J vHs (hy_ a) (hnp_ a _) fun s1 hb hh1 vHs1=>?_
  refine Ac (.bool false) J (Pz J)<|Ad<|Nl false J<|Bl<|B0<|Y<|Ac (.I (IntKind.wrap .i64 ((j:Int)+1))) J (Bk J J J) ?_
  refine Ac (.I (IntKind.wrap .i64 ((j:Int)+1))) J Z<|Ad<|Bt (Qu (hW s1 _ _ ⟨_,vHs1,J,J⟩)) (.cons J (.cons J (.cons J (.cons (H5 (Cc ha) hlim) .nil))))
 rintro s fr h ⟨hh,vHs,rfl,rfl⟩
 refine Ab<|Y<|Ac (.bool (decide ((b.length:Int)<(b.length:Int)))) J (Bk J J J)<|Ad<|Ab<|Ho J (Int.lt_irrefl _)<|Fa J ?_
 exact Ahk Try.func93 J vHs
theorem Zm (l:List Int)(h0:Ag)(o0:Nat)(v:AV)(g:Nat)(hv:Bs v o0 g l.length)(hI0:Ids h0 [o0] 1):P1 l≠.bad→Bw Try.prog 92 [v] (hp h0 [o0] [Ba v g 1 (l.map (rI .i64))]) (Ec (fun a_ v' h'=>v'=(.tup [])∧h'=hp h0 [o0] [Ba v g 1 ((Sl l).map (rI .i64))]) h0 (P1 l)):=
 Ais hI0 (.mk Try.func92 rfl (by decide)) hv Go.Proofs.Try.slices_Sort_int Go.Proofs.Try.slices_Sort_int_none
theorem Sg (s:List Int)(h0:Ag)(o0:Nat)(o1:Nat)(g:Nat)(hI0:Ids h0 [o0,o1] 2):Jb s≠.bad→Bw Try.prog 95 [.emp,(.func (.func 93) [] [(.ptr o0 g 0 0)])] (hp h0 [o0,o1] [some (.rows g 1 [[(.sl 1 (List.map (rI .i64) s))]]),none]) (Ec (fun a_ v h' => ∃ (v4:AV),∃ (g4:Nat),Bs v4 o1 g4 a_.length∧v4=v∧h'=hp h0 [o0,o1] [none,Ba v4 g4 1 (List.map (rI .i64) a_)]) h0 (Jb s)):=by
 refine Cp (n:=13) 2 Try.func95 J (by decide) J J hI0 J fun ids he hI=>?_
 clear hI0
 obtain rfl:ix ids 0=o0:=he 0 rfl
 obtain rfl:ix ids 1=o1:=he 1 rfl
 clear he
 refine B4 (Ax (Jb.eq_1 _) ?_)
 refine Ay ?_
 refine Ag9<|Ab<|Y<|Dg (v:=.emp) (j:=2) hI J J J J J J J fun g1=>Ac .emp J Ap<|Ad<|Ay ?_
 refine Ab<|Ab<|Y<|Ac (.func (.func 93) [] [(.q ids 0 g)]) J Z<|Ad<|Bx<|Ai6 (h2:=hp h0 ids [none,none,(some (.rows g1 1 [[.emp]])),none]) [(2,(.q ids 2 g1)),(6,(.func (.func 93) [] [(.cp [(.sl 1 (List.map (rI .i64) s))] 0)]))] (Drops.sub (.drop (.keep (.keep (.keep .nil)))) hI.len) (.cons (.same _) (.cons (.funcL .nil (.cons (.ptrL (hI.at J J) (hI.at J J) J (I2 _)) .nil)) .nil)) J J ?_
 refine Ha [(2,(.q ids 2 g1)),(6,(.func (.func 93) [] [(.cp [(.sl 1 (List.map (rI .i64) s))] 0)]))] (FI J)<|Ae0 (P:=Try.prog) 3 (fun(gL:Nat) (r_L:Loop)=>fun l=>fun(h1:Ag) => ∃ (v1:AV),∃ (g2:Nat),Bs v1 (ix ids 1) g2 l.length∧h1=hp h0 ids [none,(Ba v1 g2 1 (List.map (rI .i64) l)),(some (.rows g1 1 [[v1]])),(some (.blk gL (.loop r_L)))]:Nat→Loop→(List Int)→Ag→Prop) J J hI J J J fun gL y_L r_L hl_L hy_L=>⟨?_,?_,?_,?_⟩
 ·refine U8 s _ _ _ _ _ (fun a=>Ajn hl_L (by decide) J hy_L ?_ ?_) (fun _ _ _=>R.np_ne _ _) _ _ ?_
  ·rintro l _ ⟨v1,g2,vH,rfl⟩
   exact hI.at J J
  ·rintro lo_ l _ ⟨v1,g2,vH,rfl⟩
   refine Aod (B4 (Ax (m':=J5 a l) J (Ax (J5.eq_1 _ _) ?_)))
   refine Akh [(7,(.I a)),(2,(.q ids 2 g1)),(6,(.func (.func 93) [] [(.cp [(.sl 1 (List.map (rI .i64) s))] 0)]))] (Yp _ _ _)<|Y<|Ac (.I a) J Ap<|Ad<|Wr hI J J J hl_L.ready<|Ay ?_
   refine Bx<|Y<|Al 2 [2] [(9,(.I a)),(8,v1)] ?_
   refine Wg (e:=(rI .i64)) (L:=[a]) (st:=1) (rows:=[[(.I a)]]) J Cm Aq J J J J J (.cons (RowSim.refl _) .nil) (fun x=>Hi x) J J<|Li fun hl=>Kc (e:=(rI .i64)) (L:=l) (L2:=[a]) (v:=v1) (g:=g2) (st:=1) (j:=1) hI J J J J vH J (Fr J) Cm Cm J Aq J J J hl fun v2 g3 vH1=>Bc (Cs vH1 hI J J J J Cm J J J)<|Ad<|Ay ?_
   refine B0<|Ald (s:=(l++[a])) (jL:=3) hI J J J ⟨v2,g3,vH1,J⟩
  exact⟨.emp,0,.nil,J⟩
 ·rintro l _ ⟨v1,g2,vH,rfl⟩
  exact hI.at J J
 ·rintro l _ _ ⟨v1,g2,vH,rfl⟩
  refine Ae7 [none,(Ba v1 g2 1 (List.map (rI .i64) l)),(some (.rows g1 1 [[v1]])),none] hI J J J<|B0<|Ab<|Y<|Al 2 [2] [(4,v1)] ?_
  refine Ad<|Ac3 (Se (Ami (K:=2) (N:=2) (a:=l) (vs:=[v1]) [none,Ba v1 g2 1 (List.map (rI .i64) l)] Try.func95 hI J J J (.keep (.keep (.drop (.keep .nil)))) (.same _) ⟨v1,g2,vH,J,J⟩))
 rintro v3 _ l _ ⟨v1,g2,vH,rfl⟩
 refine Aen [none,(Ba v1 g2 1 (List.map (rI .i64) l)),(some (.rows g1 1 [[v1]])),none] hI J J J<|Se (B8 (K:=2) (N:=2) Try.func95 hI)
theorem S7 (s:List Int)(h0:Ag)(o0:Nat)(o1:Nat)(g:Nat)(hI0:Ids h0 [o0,o1] 2):H4 s≠.bad→Bw Try.prog 91 [(.func (.func 93) [] [(.ptr o0 g 0 0)])] (hp h0 [o0,o1] [some (.rows g 1 [[(.sl 1 (List.map (rI .i64) s))]]),none]) (Ec (fun a_ v h' => ∃ (v2:AV),∃ (g2:Nat),Bs v2 o1 g2 a_.length∧v2=v∧h'=hp h0 [o0,o1] [none,Ba v2 g2 1 (List.map (rI .i64) a_)]) h0 (H4 s)):=by
 refine Cp (n:=5) 0 Try.func91 J (by decide) J J hI0 J fun ids he hI=>?_
 clear hI0
 obtain rfl:ix ids 0=o0:=he 0 rfl
 obtain rfl:ix ids 1=o1:=he 1 rfl
 clear he
 refine B4 (Ax (H4.eq_1 _) ?_)
 refine Ab<|Y<|Ac .emp J Ap<|Ad<|Ab<|Y<|Ac (.func (.func 93) [] [(.q ids 0 g)]) J Z ?_
 refine Cg [0,1] hI J J (Sg s _ (ix ids 0) (ix ids 1) g (by exact hI.sub' J J)) J J J J J J (fun v _=>B8 (K:=2) (N:=0) Try.func91 hI) ?_
 rintro r _ _ _ ⟨v1,g1,vH,rfl,rfl⟩
 refine Dr [0,1] hI J J J ?_
 refine Cw<|Ac v1 J Ap<|Ad<|Ay ?_
 exact D0 (K:=2) (N:=0) (a:=r) (vs:=[v1]) [none,Ba v1 g1 1 (List.map (rI .i64) r)] Try.func91 hI J J J (.keep (.keep .nil)) (.same _) ⟨v1,g1,vH,J,J⟩
theorem K8 (s:List Int)(h0:Ag)(o0:Nat)(g:Nat)(hI0:Ids h0 [o0] 1):E9 s≠.bad→Bw Try.prog 72 [(.func (.func 93) [] [(.ptr o0 g 0 0)])] (hp h0 [o0] [some (.rows g 1 [[(.sl 1 (List.map (rI .i64) s))]])]) (Ec (fun a_ v h'=>v=(.sl 1 (List.map (rI .i64) a_))∧h'=hp h0 [o0] [none]) h0 (E9 s)):=by
 refine Cp (n:=9) 1 Try.func72 J (by decide) J J hI0 J fun ids he hI=>?_
 clear hI0
 obtain rfl:ix ids 0=o0:=he 0 rfl
 clear he
 refine B4 (Ax (E9.eq_1 _) ?_)
 refine Ay ?_
 refine Ab<|Y<|Ac .emp J Ap<|Ad<|Ab<|Y<|Ac (.func (.func 93) [] [(.q ids 0 g)]) J Z ?_
 refine Cg [0,1] hI J J (S7 s _ (ix ids 0) (ix ids 1) g (by exact hI.sub' J J)) J J J J J J (fun v _=>B8 (K:=1) (N:=1) Try.func72 hI) ?_
 rintro s1 _ _ _ ⟨v1,g1,vH,rfl,rfl⟩
 refine Dr [0,1] hI J J J ?_
 refine Cw<|Ac v1 J Ap<|Ad<|Ay ?_
 refine Ab<|Y<|Ac v1 J Z<|Cg [1] hI J J (Zm s1 _ (ix ids 1) v1 g1 vH (by exact hI.sub' J J)) J J J J J J (fun v _=>B8 (K:=1) (N:=1) Try.func72 hI) ?_
 rintro _ _ _ _ ⟨rfl,rfl⟩
 refine Dr [1] hI J J J ?_
 refine Cw<|Ad<|Ay ?_
 refine Ab<|Y<|Al 2 [] [(2,v1)] ?_
 refine Ad<|D0 (K:=1) (N:=1) (a:=(Sl s1)) (vs:=[v1]) [none] Try.func72 hI J J J (.keep (.drop .nil)) (Dp (Bs.sort vH) (hI.at J J) (hI.at J J) (fun x=>Hi x)) ⟨J,J⟩
theorem S9 (s0_ReplicaID:Int)(s0_ReplicaMany:Int)(s0_ReplicaTerm:Int)(s0_ReplicaVote:Int)(s0_ReplicaRole:Int)(s0_ReplicaCommit:Int)(s0_ReplicaVotes:List Bool)(l:List Record)(l1:List Int)(h0:Ag)(o0:Nat)(o1:Nat)(o2:Nat)(g:Nat)(v1:AV)(g1:Nat)(v2:AV)(g2:Nat)(vH:Bs v1 o1 g1 l.length)(vH1:Bs v2 o2 g2 l1.length)(hI0:Ids h0 [o0,o1,o2] 3):Gu s0_ReplicaID s0_ReplicaMany s0_ReplicaTerm s0_ReplicaVote s0_ReplicaRole s0_ReplicaCommit s0_ReplicaVotes l l1≠.bad→Bw Try.prog 55 [(.ptr o0 g 0 0)] (hp h0 [o0,o1,o2] [some (.rows g 10 [[(.int .i64 s0_ReplicaID),(.int .i64 s0_ReplicaMany),(.int .i64 s0_ReplicaTerm),(.int .i64 s0_ReplicaVote),v1,(.int .i64 s0_ReplicaRole),(.int .i64 s0_ReplicaCommit),(.sl 1 (List.map rB s0_ReplicaVotes)),v2,.emp]]),Ba v1 g1 2 (List.map Ak l),Ba v2 g2 1 (List.map (rI .i64) l1)]) (Ec (fun a_ v h' => ∃ (v4:AV),∃ (g5:Nat),Bs v4 o1 g5 a_.2.length∧v=(.tup [])∧h'=hp h0 [o0,o1,o2] [some (.rows g 10 [[(.int .i64 s0_ReplicaID),(.int .i64 s0_ReplicaMany),(.int .i64 s0_ReplicaTerm),(.int .i64 s0_ReplicaVote),v4,(.int .i64 s0_ReplicaRole),(.int .i64 a_.1),(.sl 1 (List.map rB s0_ReplicaVotes)),(.sl 1 (List.map (rI .i64) l1)),.emp]]),Ba v4 g5 2 (List.map Ak a_.2),none]) h0 (Gu s0_ReplicaID s0_ReplicaMany s0_ReplicaTerm s0_ReplicaVote s0_ReplicaRole s0_ReplicaCommit s0_ReplicaVotes l l1)):=by
 refine Cp (n:=48) 1 Try.func55 J (by decide) J J hI0 J fun ids he hI=>?_
 clear hI0
 obtain rfl:ix ids 0=o0:=he 0 rfl
 obtain rfl:ix ids 1=o1:=he 1 rfl
 obtain rfl:ix ids 2=o2:=he 2 rfl
 clear he
 refine B4 (Ax (Gu.eq_1 _ _ _ _ _ _ _ _ _) ?_)
 refine Ay ?_
 refine Ab<|Y<|Al 5 [0] [(8,v2)] ?_
 refine Cg [2,3] hI J J (M4 l1 _ (ix ids 2) (ix ids 3) v2 g2 vH1 (by exact hI.sub' J J)) J J J J J J (fun v _=>B8 (K:=3) (N:=1) Try.func55 hI) ?_
 rintro _ _ _ _ ⟨g3,rfl,rfl⟩
 refine Dr [2,3] hI J J J ?_
 refine Cw<|Ah7 [(some (.rows g 10 [[(.I s0_ReplicaID),(.I s0_ReplicaMany),(.I s0_ReplicaTerm),(.I s0_ReplicaVote),v1,(.I s0_ReplicaRole),(.I s0_ReplicaCommit),(.sl 1 (List.map rB s0_ReplicaVotes)),(.sl 1 (List.map (rI .i64) l1)),.emp]])),(Ba v1 g1 2 (List.map Ak l)),none,(some (.rows g3 1 [[(.sl 1 (List.map (rI .i64) l1))]]))] [(0,(.q ids 0 g)),(9,(.func (.func 93) [] [(.q ids 3 g3)]))] hI J (.fz (.cons (.same _) (.cons (.same _) (.cons (.same _) (.cons (.same _) (.cons (.same _) (.cons (.same _) (.cons (.same _) (.cons (.same _) (.cons (Dp vH1 (hI.at J J) (hI.at J J) (fun x=>Hi x)) (.cons (.same _) .nil)))))))))) J (Ar J (Ar J (Ar J (Ar J (Ar (Bs.flat vH) (Ar J (Ar J (Ar J (Ar J (Ar J Eg)))))))))) (.keep (.drop (.fz (.cons (Dp vH1 (hI.at J J) (hI.at J J) (fun x=>Hi x)) .nil) J J .nil)))) (.cons (.same _) (.cons (.same _) .nil))<|Cg [3] hI J J (K8 l1 _ (ix ids 3) g3 (by exact hI.sub' J J)) J J J J J J (fun v _=>B8 (K:=3) (N:=1) Try.func55 hI) ?_
 rintro l2 _ _ _ ⟨rfl,rfl⟩
 refine Dr [3] hI J J J ?_
 refine Cw<|Ac (.sl 1 (List.map (rI .i64) l2)) J Ap<|Ad<|Ay ?_
 refine Ab<|Y<|Al 2 [] [(12,(.sl 1 (List.map (rI .i64) l2))),(11,(.sl 1 (List.map (rI .i64) l2)))] ?_
 refine Ac (.I (l2.length:Int)) J (By (B5 Cm))<|Ac (.I (IntKind.wrap .i64 ((l2.length:Int) - 1))) J (Bk J J J)<|Ac (.I (IntKind.wrap .i64 (Int.tdiv (IntKind.wrap .i64 ((l2.length:Int) - 1)) 2))) J (Bk J J (T6 J (by decide)))<|Hh fun a hz hx1=>Ac (.cp [(.I a)] 0) J (Bq (Ik Cm Aq J hz hx1))<|Al 2 [] [(3,(.I a))] ?_
 refine Ad<|Ab<|D4 (Eu fun x l3=>Fw s0_ReplicaCommit a x l3) (Eu fun x l3=>fun(fr:Nat→AV) (h:Ag) => ∃ (v3:AV),∃ (g4:Nat),Bs v3 (ix ids 1) g4 l3.length∧fr=A0 [(0,(.q ids 0 g)),(3,(.I a)),(42,(.bool x))]∧h=hp h0 ids [(some (.rows g 10 [[(.I s0_ReplicaID),(.I s0_ReplicaMany),(.I s0_ReplicaTerm),(.I s0_ReplicaVote),v3,(.I s0_ReplicaRole),(.I s0_ReplicaCommit),(.sl 1 (List.map rB s0_ReplicaVotes)),(.sl 1 (List.map (rI .i64) l1)),.emp]])),(Ba v3 g4 2 (List.map Ak l3)),none,none]) ?_ fun hJ=>?_
 ·rintro⟨x,l3⟩ fr h ⟨v3,g4,vH2,rfl,rfl⟩
  refine Ax (Fw.eq_1 _ _ _ _)<|Cn J (fun hc=>?_) (fun hc=>?_)
  ·refine Y<|Al 5 [] [(47,(.ptr (ix ids 0) g 0 6)),(44,(.I a))] ?_
   refine Bc (A8 (v:=(.I a)) hI J J J J Aq J J J J J)<|Ad<|Ay ?_
   exact Fm (K:=3) (N:=1) (a:=(a,l3)) (vs:=[]) [some (.rows g 10 [[(.I s0_ReplicaID),(.I s0_ReplicaMany),(.I s0_ReplicaTerm),(.I s0_ReplicaVote),v3,(.I s0_ReplicaRole),(.I a),(.sl 1 (List.map rB s0_ReplicaVotes)),(.sl 1 (List.map (rI .i64) l1)),.emp]]),Ba v3 g4 2 (List.map Ak l3),none] Try.func55 hI J J J (.keep (.keep (.keep (.keep .nil)))) (.same _) ⟨v3,g4,vH2,J,J⟩
  refine Bl<|Fm (K:=3) (N:=1) (a:=(s0_ReplicaCommit,l3)) (vs:=[]) [some (.rows g 10 [[(.I s0_ReplicaID),(.I s0_ReplicaMany),(.I s0_ReplicaTerm),(.I s0_ReplicaVote),v3,(.I s0_ReplicaRole),(.I s0_ReplicaCommit),(.sl 1 (List.map rB s0_ReplicaVotes)),(.sl 1 (List.map (rI .i64) l1)),.emp]]),Ba v3 g4 2 (List.map Ak l3),none] Try.func55 hI J J J (.keep (.keep (.keep (.keep .nil)))) (.same _) ⟨v3,g4,vH2,J,J⟩
 refine B2 Da [[],[],[1],[1,2],[1,2,3],[1,2,3,4],[0,1,2,3,4,5],[0,1,2,3,4,5,6],[0,1,2,3,4,5,6,7],[0,1,2,3,4,5,6,7,8],[0,1,2,3,4,5,6,7,8,9],[0,1,2,3,4,5,6,7,8,9,10],[0,1,2,3,4,5,6,7,8,9,10,11],[0,1,2,3,4,5,6,7],[0,1,2,3,4,5,6,7,13],[0,1,2,3,4,5,6,7,8,9,10,11,12,13,14],[0,1,2,3,4,5,6,7,8,9,10,11,12,13,14,15],[0,1,2,3,4,5,6,7,8,9,10,11,12,13,14,15,16],[0,1,2,3,4,5,6,7],[0,1,2,3,4,5,6,7,18],[0,1,2,3,4,5,6,7,18,19],[0,1,2,3,4,5,6,7,18,19,20],[0,1,2,3,4,5,6,7,18,19,20,21],[0,1,2,3,4,5,6,7,8,9,10,11,12,13,14,15,16,17,18,19,20,21,22],[0,1,2,3,4,5,6,7,8,9,10,11,12,13,14,15,16,17,18,19,20,21,22,23]] [(false,0),(false,1),(false,2),(false,3),(false,4),(false,5),(false,6),(false,7),(false,8),(false,9),(false,10),(false,11),(false,12),(false,13),(false,14),(false,15),(false,16),(false,17),(false,18),(false,19),(false,20),(false,21),(false,22),(false,23),(false,24)] (by kernel_rfl)<|O (.I a) J J Z<|O (.q ids 0 g) J J Z<|O (.q ids 0 g) J J (Aj J)<|O (.q ids 0 g) J J (Ae (Ai 0 0 0 Bd J As J))<|O (.ptr (ix ids 0) g 0 6) J J (Ae (Ai 0 6 6 As J Aq J))<|O (.I s0_ReplicaCommit) J J (Af (Ah hI J J J Aq J)) ?_
 refine O (.bool (decide (a > s0_ReplicaCommit))) J J (Bk J J J)<|O (.bool (decide (a > s0_ReplicaCommit))) J J Z<|Hk (fun hb=>?_) (fun hb=>?_)
 ·refine Az (tj:=25) (.q ids 0 g) J J (congrArg AV.bool hb) J Z<|Az (tj:=25) (.q ids 0 g) J J (congrArg AV.bool hb) J (Aj J)<|Az (tj:=25) (.q ids 0 g) J J (congrArg AV.bool hb) J (Ae (Ai 0 0 0 Bd J As J))<|Az (tj:=25) (.ptr (ix ids 0) g 0 4) J J (congrArg AV.bool hb) J (Ae (Ai 0 4 4 As J Bu J))<|Az (tj:=25) v1 J J (congrArg AV.bool hb) J (Af (Ah hI J J J Bu J))<|Az (tj:=25) (.I a) J J (congrArg AV.bool hb) J Z<|Az (tj:=25) (.I (IntKind.wrap .i64 (a - 1))) J J (congrArg AV.bool hb) J (Bk J J J) ?_
  refine Gq fun a1 hz1 hx2=>Az (tj:=25) (.ptr (ix ids 1) g1 (IntKind.wrap .i64 (a - 1)).toNat 0) J J (congrArg AV.bool hb) J (Bq (P3 hI J vH J Bu Ds J hz1 hx2))<|Az (tj:=25) (.ptr (ix ids 1) g1 (IntKind.wrap .i64 (a - 1)).toNat 0) J J (congrArg AV.bool hb) J (Ae (Ai 0 0 0 Ds J Aq J))<|Az (tj:=25) (.I a1.Term) J J (congrArg AV.bool hb) J (Af (Afc hI J vH J hx2 Aq J))<|Az (tj:=25) (.q ids 0 g) J J (congrArg AV.bool hb) J Z<|Az (tj:=25) (.q ids 0 g) J J (congrArg AV.bool hb) J (Aj J)<|Az (tj:=25) (.q ids 0 g) J J (congrArg AV.bool hb) J (Ae (Ai 0 0 0 Bd J As J)) ?_
  refine Az (tj:=25) (.ptr (ix ids 0) g 0 2) J J (congrArg AV.bool hb) J (Ae (Ai 0 2 2 As J Aq J))<|Az (tj:=25) (.I s0_ReplicaTerm) J J (congrArg AV.bool hb) J (Af (Ah hI J J J Aq J))<|Az (tj:=25) (.bool (a1.Term==s0_ReplicaTerm)) J J (congrArg AV.bool hb) J (Bk J J J)<|O (.bool (a1.Term==s0_ReplicaTerm)) J J (B9 (t:=true) (congrArg AV.bool hb) J)<|Bh<|Bt (hJ ((a1.Term==s0_ReplicaTerm),l) _ _ ⟨v1,g1,vH,J,J⟩)
 refine A4 (tj:=25) (b:=false) J J (congrArg AV.bool hb) J J<|A4 (tj:=25) (b:=false) J J (congrArg AV.bool hb) J J<|A4 (tj:=25) (b:=false) J J (congrArg AV.bool hb) J J<|A4 (tj:=25) (b:=false) J J (congrArg AV.bool hb) J J<|A4 (tj:=25) (b:=false) J J (congrArg AV.bool hb) J J<|A4 (tj:=25) (b:=false) J J (congrArg AV.bool hb) J J<|A4 (tj:=25) (b:=false) J J (congrArg AV.bool hb) J J ?_
 refine A4 (tj:=25) (b:=false) J J (congrArg AV.bool hb) J J<|A4 (tj:=25) (b:=false) J J (congrArg AV.bool hb) J J<|A4 (tj:=25) (b:=false) J J (congrArg AV.bool hb) J J<|A4 (tj:=25) (b:=false) J J (congrArg AV.bool hb) J J<|A4 (tj:=25) (b:=false) J J (congrArg AV.bool hb) J J<|A4 (tj:=25) (b:=false) J J (congrArg AV.bool hb) J J<|A4 (tj:=25) (b:=false) J J (congrArg AV.bool hb) J J ?_
 refine A4 (tj:=25) (b:=false) J J (congrArg AV.bool hb) J J<|A4 (tj:=25) (b:=false) J J (congrArg AV.bool hb) J J<|O (.bool false) J J (B9 (t:=false) (congrArg AV.bool hb) J)<|Bh<|Bt (hJ (false,l) _ _ ⟨v1,g1,vH,J,J⟩)
theorem U6 (vto:Int)(m:Message)(s0_Replica:Replica)(l:List Message)(h0:Ag)(o0:Nat)(o1:Nat)(g:Nat)(v1:AV)(g1:Nat)(vH:Bs v1 o1 g1 l.length)(hI0:Ids h0 [o0,o1] 2):K1 vto m s0_Replica l≠.bad→Bw Try.prog 69 [(.ptr o0 g 0 0),(.int .i64 vto),(.agg (An m))] (hp h0 [o0,o1] [some (.rows g 10 [[(.int .i64 s0_Replica.ID),(.int .i64 s0_Replica.Many),(.int .i64 s0_Replica.Term),(.int .i64 s0_Replica.Vote),(.sl 2 (List.map Ak s0_Replica.Log)),(.int .i64 s0_Replica.Role),(.int .i64 s0_Replica.Commit),(.sl 1 (List.map rB s0_Replica.Votes)),(.sl 1 (List.map (rI .i64) s0_Replica.Match)),v1]]),Ba v1 g1 10 (List.map An l)]) (Ec (fun a_ v h' => ∃ (v3:AV),∃ (g4:Nat),Bs v3 o1 g4 a_.length∧v=(.tup [])∧h'=hp h0 [o0,o1] [some (.rows g 10 [[(.int .i64 s0_Replica.ID),(.int .i64 s0_Replica.Many),(.int .i64 s0_Replica.Term),(.int .i64 s0_Replica.Vote),(.sl 2 (List.map Ak s0_Replica.Log)),(.int .i64 s0_Replica.Role),(.int .i64 s0_Replica.Commit),(.sl 1 (List.map rB s0_Replica.Votes)),(.sl 1 (List.map (rI .i64) s0_Replica.Match)),v3]]),Ba v3 g4 10 (List.map An a_)]) h0 (K1 vto m s0_Replica l)):=by
 refine Cp (n:=30) 1 Try.func69 J (by decide) J J hI0 J fun ids he hI=>?_
 clear hI0
 obtain rfl:ix ids 0=o0:=he 0 rfl
 obtain rfl:ix ids 1=o1:=he 1 rfl
 clear he
 refine B4 (Ax (K1.eq_1 _ _ _ _) ?_)
 refine Ay ?_
 refine Ab<|Y<|Dg (v:=(.agg (An m))) (j:=2) hI J J J J J J J fun g2=>Ad<|Ay ?_
 refine Ab<|B2 Da [[],[0],[0,1],[0,1,2],[0,1,2,3],[],[],[6],[6,7],[6,7,8],[6,7,8,9],[0,1,2,3,4],[0,1,2,3,4,4,11],[0,1,2,3,4,5,11,12],[0,1,2,3,4,5,5,11,12,12,13],[0,1,2,3,4,5,6,7,8,9,10,11,12,13,14],[0,1,2,3,4,5,6,7,8,9,10,10,11,12,13,14,14,15]] [(false,0),(false,1),(false,2),(false,3),(false,4),(false,5),(false,6),(false,7),(false,8),(false,9),(false,10),(false,11),(true,12),(false,13),(true,14),(false,15),(true,16)] (by kernel_rfl)<|O (.q ids 0 g) J J Z<|O (.q ids 0 g) J J (Aj J)<|O (.q ids 0 g) J J (Ae (Ai 0 0 0 Bd J As J))<|O (.q ids 0 g) J J (Ae (Ai 0 0 0 As J Aq J))<|O (.I s0_Replica.ID) J J (Af (Ah hI J J J Aq J)) ?_
 refine O (.I vto) J J Z<|O (.q ids 0 g) J J Z<|O (.q ids 0 g) J J (Aj J)<|O (.q ids 0 g) J J (Ae (Ai 0 0 0 Bd J As J))<|O (.ptr (ix ids 0) g 0 2) J J (Ae (Ai 0 2 2 As J Aq J))<|O (.I s0_Replica.Term) J J (Af (Ah hI J J J Aq J))<|O (.ptr (ix ids 2) g2 0 1) J J (Ae (Ai 0 1 1 Bf J Aq J)) ?_
 refine Bo J (fun _ _=>J) (fun K hK=>A5 (A8 (v:=(.I s0_Replica.ID)) hI J J J J Aq J J J J J) (hK _ _ (Au J (Aa J (Af (Ah hI J J J Aq J)) (Aa J (Ae (Ai 0 2 2 As J Aq J)) (Aa J (Ae (Ai 0 0 0 Bd J As J)) (Aa J (Aj J) (Aa J Z (Aa J Z (A7 J (Au J Ao))))))))) ?_))
 clear hK K
 refine O (.ptr (ix ids 2) g2 0 2) J J (Ae (Ai 0 2 2 Bf J Aq J))<|Bo J (fun _ _=>J) (fun K hK=>A5 (A8 (v:=(.I vto)) hI J J J J Aq J J J J J) (hK _ _ (A9 J (Aa J (Af (Ah hI J J J Aq J)) (Aa J (Ae (Ai 0 2 2 As J Aq J)) (Aa J (Ae (Ai 0 0 0 Bd J As J)) (Aa J (Aj J) (Aa J Z (A7 J (A9 J Ao)))))))) ?_))
 clear hK K
 refine O (.ptr (ix ids 2) g2 0 3) J J (Ae (Ai 0 3 3 Bf J Aq J))<|Bo J (fun _ _=>J) (fun K hK=>A5 (A8 (v:=(.I s0_Replica.Term)) hI J J J J Aq J J J J J) (hK _ _ (A6 J (A7 J (A9 J Ao))) ?_))
 clear hK K
 refine Bh<|Ay ?_
 refine B2 Da [[],[],[1],[1,2],[1,2,3],[],[5],[1,2,3,4,5,6],[0,0,1,2,3,4,5,6,7],[0,1,2,3,4,5,6,7,8],[0,1,2,3,4,5,6,7,8,9]] [(false,0),(false,1),(false,2),(false,3),(false,4),(false,5),(true,6),(true,7),(false,8),(false,9),(true,10)] (by kernel_rfl)<|O (.q ids 0 g) J J Z<|O (.q ids 0 g) J J Z<|O (.q ids 0 g) J J (Aj J)<|O (.ptr (ix ids 0) g 0 9) J J (Ae (Ai 0 9 1 Bd J C7 J))<|O v1 J J (Af (Ah hI J J J C7 J))<|O (.agg [(.I m.Kind),(.I s0_Replica.ID),(.I vto),(.I s0_Replica.Term),(.I m.Last),(.I m.LastTerm),(.sl 2 (List.map Ak m.Log)),(.I m.Commit),(.I m.Match),(.bool m.Granted)]) J J (Af (Ah hI J J J Bf J)) ?_
 refine Cf J J (fun _ _=>J) (fun K hK=>Gv (e:=An) (L:=[({ Kind:=m.Kind,From:=s0_Replica.ID,To:=vto,Term:=s0_Replica.Term,Last:=m.Last,LastTerm:=m.LastTerm,Log:=m.Log,Commit:=m.Commit,Match:=m.Match,Granted:=m.Granted }:Message)]) (st:=10) (rows:=[[(.I m.Kind),(.I s0_Replica.ID),(.I vto),(.I s0_Replica.Term),(.I m.Last),(.I m.LastTerm),(.sl 2 (List.map Ak m.Log)),(.I m.Commit),(.I m.Match),(.bool m.Granted)]]) C7 Bf J J J J J (.cons (.cons (.same _) (.cons (.same _) (.cons (.same _) (.cons (.same _) (.cons (.same _) (.cons (.same _) (.cons (.same _) (.cons (.same _) (.cons (.same _) (.cons (.same _) .nil)))))))))) .nil) (fun x=>Iw x) J J (hK _ _ (Au J (Aa J (Af (Ah hI J J J C7 J)) (Aa J (Ae (Ai 0 9 1 Bd J C7 J)) (Aa J (Aj J) (Aa J Z (Aa J Z Ao)))))) ?_))
 clear hK K
 refine Cb fun hl=>Cf J J (fun _ _=>J) (fun K hK=>D8 (e:=An) (L:=l) (L2:=[({ Kind:=m.Kind,From:=s0_Replica.ID,To:=vto,Term:=s0_Replica.Term,Last:=m.Last,LastTerm:=m.LastTerm,Log:=m.Log,Commit:=m.Commit,Match:=m.Match,Granted:=m.Granted }:Message)]) (v:=v1) (g:=g1) (st:=10) (j:=1) hI J J J vH J (Fr J) C7 C7 J Bf J J J hl fun v2 g3 vH1=>hK _ _ (A7 J (Au J (Aa J Z Ao))) ?_)
 clear hK K
 refine O (.q ids 0 g) J J (Aj J)<|O (.ptr (ix ids 0) g 0 9) J J (Ae (Ai 0 9 1 Bd J C7 J))<|Bo J (fun _ _=>J) (fun K hK=>A5 (Cs vH1 hI J J J J C7 J J J) (hK _ _ (A6 J Ao) ?_))
 clear hK K
 refine Bh<|Ay ?_
 exact Fm (K:=2) (N:=1) (a:=(l++[({ Kind:=m.Kind,From:=s0_Replica.ID,To:=vto,Term:=s0_Replica.Term,Last:=m.Last,LastTerm:=m.LastTerm,Log:=m.Log,Commit:=m.Commit,Match:=m.Match,Granted:=m.Granted }:Message)])) (vs:=[]) [some (.rows g 10 [[(.I s0_Replica.ID),(.I s0_Replica.Many),(.I s0_Replica.Term),(.I s0_Replica.Vote),(.sl 2 (List.map Ak s0_Replica.Log)),(.I s0_Replica.Role),(.I s0_Replica.Commit),(.sl 1 (List.map rB s0_Replica.Votes)),(.sl 1 (List.map (rI .i64) s0_Replica.Match)),v2]]),Ba v2 g3 10 (List.map An (l++[({ Kind:=m.Kind,From:=s0_Replica.ID,To:=vto,Term:=s0_Replica.Term,Last:=m.Last,LastTerm:=m.LastTerm,Log:=m.Log,Commit:=m.Commit,Match:=m.Match,Granted:=m.Granted }:Message)]))] Try.func69 hI J J J (.keep (.keep (.drop .nil))) (.same _) ⟨v2,g3,vH1,J,J⟩
theorem V6 (m:Message)(s_Replica:Replica)(h0:Ag)(o0:Nat)(o1:Nat)(g:Nat)(hI0:Ids h0 [o0,o1] 2):Ig m s_Replica≠.bad→Bw Try.prog 58 [(.ptr o0 g 0 0),(.agg (An m))] (hp h0 [o0,o1] [some (.rows g 10 [[(.int .i64 s_Replica.ID),(.int .i64 s_Replica.Many),(.int .i64 s_Replica.Term),(.int .i64 s_Replica.Vote),(.sl 2 (List.map Ak s_Replica.Log)),(.int .i64 s_Replica.Role),(.int .i64 s_Replica.Commit),(.sl 1 (List.map rB s_Replica.Votes)),(.sl 1 (List.map (rI .i64) s_Replica.Match)),.emp]]),none]) (Ec (fun a_ v h' => ∃ (v4:AV),∃ (g5:Nat),Bs v4 o1 g5 a_.length∧v=(.tup [])∧h'=hp h0 [o0,o1] [some (.rows g 10 [[(.int .i64 s_Replica.ID),(.int .i64 s_Replica.Many),(.int .i64 s_Replica.Term),(.int .i64 s_Replica.Vote),(.sl 2 (List.map Ak s_Replica.Log)),(.int .i64 s_Replica.Role),(.int .i64 s_Replica.Commit),(.sl 1 (List.map rB s_Replica.Votes)),(.sl 1 (List.map (rI .i64) s_Replica.Match)),v4]]),Ba v4 g5 10 (List.map An a_)]) h0 (Ig m s_Replica)):=by
 refine Cp (n:=25) 1 Try.func58 J (by decide) J J hI0 J fun ids he hI=>?_
 clear hI0
 obtain rfl:ix ids 0=o0:=he 0 rfl
 obtain rfl:ix ids 1=o1:=he 1 rfl
 clear he
 refine B4 (Ax (Ig.eq_1 _ _) ?_)
 refine Ay ?_
 refine Ab<|Y<|Dg (v:=(.agg (An m))) (j:=2) hI J J J J J J J fun g1=>Ad<|Ay ?_
 refine Ab<|Y<|Al 6 [0] [(10,(.I 0)),(9,(.I s_Replica.Many))] ?_
 refine Ad<|D4 (fun l1=>Io l1) (fun l1=>fun(fr:Nat→AV) (h:Ag) => ∃ (v3:AV),∃ (g4:Nat),Bs v3 (ix ids 1) g4 l1.length∧fr=A0 []∧h=hp h0 ids [(some (.rows g 10 [[(.I s_Replica.ID),(.I s_Replica.Many),(.I s_Replica.Term),(.I s_Replica.Vote),(.sl 2 (List.map Ak s_Replica.Log)),(.I s_Replica.Role),(.I s_Replica.Commit),(.sl 1 (List.map rB s_Replica.Votes)),(.sl 1 (List.map (rI .i64) s_Replica.Match)),v3]])),(Ba v3 g4 10 (List.map An l1)),none]) ?_ fun hJ=>?_
 ·rintro l1 fr h ⟨v3,g4,vH2,rfl,rfl⟩
  refine Ax (Io.eq_1 _)<|Fm (K:=2) (N:=1) (a:=l1) (vs:=[]) [some (.rows g 10 [[(.I s_Replica.ID),(.I s_Replica.Many),(.I s_Replica.Term),(.I s_Replica.Vote),(.sl 2 (List.map Ak s_Replica.Log)),(.I s_Replica.Role),(.I s_Replica.Commit),(.sl 1 (List.map rB s_Replica.Votes)),(.sl 1 (List.map (rI .i64) s_Replica.Match)),v3]]),Ba v3 g4 10 (List.map An l1)] Try.func58 hI J J J (.keep (.keep (.keep .nil))) (.same _) ⟨v3,g4,vH2,J,J⟩
 refine Bx<|Ha [(0,(.q ids 0 g)),(3,(.q ids 2 g1)),(9,(.I s_Replica.Many)),(10,(.I 0))] (FI J)<|Mx (P:=Try.prog) (Eu fun x l=>In m s_Replica x l) ((fun l1=>Io l1):(List Message)→R (List Message)) (Eu fun x l=>fun(fr:Nat→AV) (h:Ag) => ∃ (v1:AV),∃ (g2:Nat),Bs v1 (ix ids 1) g2 l.length∧fr=A0 [(0,(.q ids 0 g)),(3,(.q ids 2 g1)),(9,(.I s_Replica.Many)),(10,(.I x))]∧h=hp h0 ids [(some (.rows g 10 [[(.I s_Replica.ID),(.I s_Replica.Many),(.I s_Replica.Term),(.I s_Replica.Vote),(.sl 2 (List.map Ak s_Replica.Log)),(.I s_Replica.Role),(.I s_Replica.Commit),(.sl 1 (List.map rB s_Replica.Votes)),(.sl 1 (List.map (rI .i64) s_Replica.Match)),v1]])),(Ba v1 g2 10 (List.map An l)),(some (.rows g1 10 [(An m)]))]) (0,[]) ?_ ?_
 ·exact⟨.emp,0,.nil,J,J⟩
 rintro vW hW ⟨x,l⟩ fr h ⟨v1,g2,vH,rfl,rfl⟩
 refine Ax (m':=In m s_Replica x l) J (Ax (In.eq_1 _ _ _ _) ?_)
 refine Ab<|Y<|Ac (.bool (decide (x<s_Replica.Many))) J (Bk J J J)<|Ad<|Ab<|H3 J (fun hc=>?_) (fun hc=>?_)
 ·refine Bl<|Ab<|Bx<|Ab<|Y<|Al 2 [] [(4,(.I x))] ?_
  refine Ad<|Ab<|Y<|Al 7 [0] [(19,(.bool (x != s_Replica.ID)))] ?_
  refine Ad<|Cn J (fun hc1=>?_) (fun hc1=>?_)
  ·refine Y<|Al 3 [2] [(22,(.agg (An m))),(21,(.I x)),(20,(.q ids 0 g))] ?_
   refine Cg [0,1] hI J J (U6 x m s_Replica l _ (ix ids 0) (ix ids 1) g v1 g2 vH (by exact hI.sub' J J)) J J J J J J (fun v _=>B8 (K:=2) (N:=1) Try.func58 hI) ?_
   rintro r _ _ _ ⟨v2,g3,vH1,rfl,rfl⟩
   refine Dr [0,1] hI J J J ?_
   refine Cw<|Ad<|Ay ?_
   refine B0<|Y<|Al 2 [] [(10,(.I (IntKind.wrap .i64 (x+1))))] ?_
   refine Ad<|Bt (Lj (hW ((IntKind.wrap .i64 (x+1)),r) _ _ ⟨v2,g3,vH1,J,J⟩))
  refine Bl<|B0<|Y<|Al 2 [] [(10,(.I (IntKind.wrap .i64 (x+1))))] ?_
  refine Ad<|Bt (Lj (hW ((IntKind.wrap .i64 (x+1)),l) _ _ ⟨v1,g2,vH,J,J⟩))
 refine Fa J<|Kj<|D3 [(some (.rows g 10 [[(.I s_Replica.ID),(.I s_Replica.Many),(.I s_Replica.Term),(.I s_Replica.Vote),(.sl 2 (List.map Ak s_Replica.Log)),(.I s_Replica.Role),(.I s_Replica.Commit),(.sl 1 (List.map rB s_Replica.Votes)),(.sl 1 (List.map (rI .i64) s_Replica.Match)),v1]])),(Ba v1 g2 10 (List.map An l)),none] hI J (.keep (.keep (.drop .nil)))<|Bt (hJ l _ _ ⟨v1,g2,vH,J,J⟩)
theorem U4 (s0_ReplicaID:Int)(s0_ReplicaMany:Int)(s0_ReplicaTerm:Int)(s0_ReplicaVote:Int)(s0_ReplicaRole:Int)(s0_ReplicaCommit:Int)(s0_ReplicaVotes:List Bool)(s0_ReplicaMatch:List Int)(l:List Record)(h0:Ag)(o0:Nat)(o1:Nat)(o2:Nat)(g:Nat)(v1:AV)(g1:Nat)(vH:Bs v1 o1 g1 l.length)(hI0:Ids h0 [o0,o1,o2] 3):Hv s0_ReplicaID s0_ReplicaMany s0_ReplicaTerm s0_ReplicaVote s0_ReplicaRole s0_ReplicaCommit s0_ReplicaVotes s0_ReplicaMatch l≠.bad→Bw Try.prog 56 [(.ptr o0 g 0 0)] (hp h0 [o0,o1,o2] [some (.rows g 10 [[(.int .i64 s0_ReplicaID),(.int .i64 s0_ReplicaMany),(.int .i64 s0_ReplicaTerm),(.int .i64 s0_ReplicaVote),v1,(.int .i64 s0_ReplicaRole),(.int .i64 s0_ReplicaCommit),(.sl 1 (List.map rB s0_ReplicaVotes)),(.sl 1 (List.map (rI .i64) s0_ReplicaMatch)),.emp]]),Ba v1 g1 2 (List.map Ak l),none]) (Ec (fun a_ v h' => ∃ (v3:AV),∃ (g3:Nat),Bs v3 o2 g3 a_.length∧v=(.tup [])∧h'=hp h0 [o0,o1,o2] [some (.rows g 10 [[(.int .i64 ({ ID:=s0_ReplicaID,Many:=s0_ReplicaMany,Term:=s0_ReplicaTerm,Vote:=s0_ReplicaVote,Log:=l,Role:=s0_ReplicaRole,Commit:=s0_ReplicaCommit,Votes:=s0_ReplicaVotes,Match:=s0_ReplicaMatch }:Replica).ID),(.int .i64 ({ ID:=s0_ReplicaID,Many:=s0_ReplicaMany,Term:=s0_ReplicaTerm,Vote:=s0_ReplicaVote,Log:=l,Role:=s0_ReplicaRole,Commit:=s0_ReplicaCommit,Votes:=s0_ReplicaVotes,Match:=s0_ReplicaMatch }:Replica).Many),(.int .i64 ({ ID:=s0_ReplicaID,Many:=s0_ReplicaMany,Term:=s0_ReplicaTerm,Vote:=s0_ReplicaVote,Log:=l,Role:=s0_ReplicaRole,Commit:=s0_ReplicaCommit,Votes:=s0_ReplicaVotes,Match:=s0_ReplicaMatch }:Replica).Term),(.int .i64 ({ ID:=s0_ReplicaID,Many:=s0_ReplicaMany,Term:=s0_ReplicaTerm,Vote:=s0_ReplicaVote,Log:=l,Role:=s0_ReplicaRole,Commit:=s0_ReplicaCommit,Votes:=s0_ReplicaVotes,Match:=s0_ReplicaMatch }:Replica).Vote),(.sl 2 (List.map Ak ({ ID:=s0_ReplicaID,Many:=s0_ReplicaMany,Term:=s0_ReplicaTerm,Vote:=s0_ReplicaVote,Log:=l,Role:=s0_ReplicaRole,Commit:=s0_ReplicaCommit,Votes:=s0_ReplicaVotes,Match:=s0_ReplicaMatch }:Replica).Log)),(.int .i64 ({ ID:=s0_ReplicaID,Many:=s0_ReplicaMany,Term:=s0_ReplicaTerm,Vote:=s0_ReplicaVote,Log:=l,Role:=s0_ReplicaRole,Commit:=s0_ReplicaCommit,Votes:=s0_ReplicaVotes,Match:=s0_ReplicaMatch }:Replica).Role),(.int .i64 ({ ID:=s0_ReplicaID,Many:=s0_ReplicaMany,Term:=s0_ReplicaTerm,Vote:=s0_ReplicaVote,Log:=l,Role:=s0_ReplicaRole,Commit:=s0_ReplicaCommit,Votes:=s0_ReplicaVotes,Match:=s0_ReplicaMatch }:Replica).Commit),(.sl 1 (List.map rB ({ ID:=s0_ReplicaID,Many:=s0_ReplicaMany,Term:=s0_ReplicaTerm,Vote:=s0_ReplicaVote,Log:=l,Role:=s0_ReplicaRole,Commit:=s0_ReplicaCommit,Votes:=s0_ReplicaVotes,Match:=s0_ReplicaMatch }:Replica).Votes)),(.sl 1 (List.map (rI .i64) ({ ID:=s0_ReplicaID,Many:=s0_ReplicaMany,Term:=s0_ReplicaTerm,Vote:=s0_ReplicaVote,Log:=l,Role:=s0_ReplicaRole,Commit:=s0_ReplicaCommit,Votes:=s0_ReplicaVotes,Match:=s0_ReplicaMatch }:Replica).Match)),v3]]),none,Ba v3 g3 10 (List.map An a_)]) h0 (Hv s0_ReplicaID s0_ReplicaMany s0_ReplicaTerm s0_ReplicaVote s0_ReplicaRole s0_ReplicaCommit s0_ReplicaVotes s0_ReplicaMatch l)):=by
 refine Cp (n:=15) 0 Try.func56 J (by decide) J J hI0 J fun ids he hI=>?_
 clear hI0
 obtain rfl:ix ids 0=o0:=he 0 rfl
 obtain rfl:ix ids 1=o1:=he 1 rfl
 obtain rfl:ix ids 2=o2:=he 2 rfl
 clear he
 refine B4 (Ax (Hv.eq_1 _ _ _ _ _ _ _ _ _) ?_)
 refine Aec [(some (.rows g 10 [[(.I s0_ReplicaID),(.I s0_ReplicaMany),(.I s0_ReplicaTerm),(.I s0_ReplicaVote),(.sl 2 (List.map Ak l)),(.I s0_ReplicaRole),(.I s0_ReplicaCommit),(.sl 1 (List.map rB s0_ReplicaVotes)),(.sl 1 (List.map (rI .i64) s0_ReplicaMatch)),.emp]])),none,none] [(0,(.q ids 0 g))] hI J (.fz (.cons (.same _) (.cons (.same _) (.cons (.same _) (.cons (.same _) (.cons (Dp vH (hI.at J J) (hI.at J J) (fun x=>Mt x)) (.cons (.same _) (.cons (.same _) (.cons (.same _) (.cons (.same _) (.cons (.same _) .nil)))))))))) J J (.drop (.keep .nil))) (.cons (.same _) .nil)<|B2 Da [[],[],[1],[1,2],[1,2,3],[1,2,3,4],[],[6],[6,7],[6,7,8],[6,7,8,9],[1,2,3,4,5,6,7,8,9,10],[0,1,2,3,4,5,6,7,8,9,10,11]] [(false,0),(false,1),(false,2),(false,3),(false,4),(false,5),(false,6),(false,7),(false,8),(false,9),(false,10),(false,11),(true,12)] (by kernel_rfl)<|O (.q ids 0 g) J J Z<|O (.q ids 0 g) J J Z<|O (.q ids 0 g) J J (Aj J)<|O (.q ids 0 g) J J (Ae (Ai 0 0 0 Bd J As J))<|O (.ptr (ix ids 0) g 0 4) J J (Ae (Ai 0 4 4 As J Bu J)) ?_
 refine O (.sl 2 (List.map Ak l)) J J (Af (Ah hI J J J Bu J))<|O (.q ids 0 g) J J Z<|O (.q ids 0 g) J J (Aj J)<|O (.q ids 0 g) J J (Ae (Ai 0 0 0 Bd J As J))<|O (.ptr (ix ids 0) g 0 6) J J (Ae (Ai 0 6 6 As J Aq J))<|O (.I s0_ReplicaCommit) J J (Af (Ah hI J J J Aq J))<|O (.agg [(.I 3),(.I 0),(.I 0),(.I 0),(.I 0),(.I 0),(.sl 2 (List.map Ak l)),(.I s0_ReplicaCommit),(.I 0),(.bool false)]) J J (C5 (Fg Bf Uc J)) ?_
 refine Fc [0,2] hI J J (V6 ({ Kind:=3,From:=0,To:=0,Term:=0,Last:=0,LastTerm:=0,Log:=l,Commit:=s0_ReplicaCommit,Match:=0,Granted:=false }:Message) ({ ID:=s0_ReplicaID,Many:=s0_ReplicaMany,Term:=s0_ReplicaTerm,Vote:=s0_ReplicaVote,Log:=l,Role:=s0_ReplicaRole,Commit:=s0_ReplicaCommit,Votes:=s0_ReplicaVotes,Match:=s0_ReplicaMatch }:Replica) _ (ix ids 0) (ix ids 2) g (by exact hI.sub' J J)) J J J J J J J (fun v _ _ _=>B8 (K:=3) (N:=0) Try.func56 hI) ?_
 rintro r _ _ _ ⟨v2,g2,vH1,rfl,rfl⟩
 refine Gr [0,2] [some (.rows g 10 [[(.I ({ ID:=s0_ReplicaID,Many:=s0_ReplicaMany,Term:=s0_ReplicaTerm,Vote:=s0_ReplicaVote,Log:=l,Role:=s0_ReplicaRole,Commit:=s0_ReplicaCommit,Votes:=s0_ReplicaVotes,Match:=s0_ReplicaMatch }:Replica).ID),(.I ({ ID:=s0_ReplicaID,Many:=s0_ReplicaMany,Term:=s0_ReplicaTerm,Vote:=s0_ReplicaVote,Log:=l,Role:=s0_ReplicaRole,Commit:=s0_ReplicaCommit,Votes:=s0_ReplicaVotes,Match:=s0_ReplicaMatch }:Replica).Many),(.I ({ ID:=s0_ReplicaID,Many:=s0_ReplicaMany,Term:=s0_ReplicaTerm,Vote:=s0_ReplicaVote,Log:=l,Role:=s0_ReplicaRole,Commit:=s0_ReplicaCommit,Votes:=s0_ReplicaVotes,Match:=s0_ReplicaMatch }:Replica).Term),(.I ({ ID:=s0_ReplicaID,Many:=s0_ReplicaMany,Term:=s0_ReplicaTerm,Vote:=s0_ReplicaVote,Log:=l,Role:=s0_ReplicaRole,Commit:=s0_ReplicaCommit,Votes:=s0_ReplicaVotes,Match:=s0_ReplicaMatch }:Replica).Vote),(.sl 2 (List.map Ak ({ ID:=s0_ReplicaID,Many:=s0_ReplicaMany,Term:=s0_ReplicaTerm,Vote:=s0_ReplicaVote,Log:=l,Role:=s0_ReplicaRole,Commit:=s0_ReplicaCommit,Votes:=s0_ReplicaVotes,Match:=s0_ReplicaMatch }:Replica).Log)),(.I ({ ID:=s0_ReplicaID,Many:=s0_ReplicaMany,Term:=s0_ReplicaTerm,Vote:=s0_ReplicaVote,Log:=l,Role:=s0_ReplicaRole,Commit:=s0_ReplicaCommit,Votes:=s0_ReplicaVotes,Match:=s0_ReplicaMatch }:Replica).Role),(.I ({ ID:=s0_ReplicaID,Many:=s0_ReplicaMany,Term:=s0_ReplicaTerm,Vote:=s0_ReplicaVote,Log:=l,Role:=s0_ReplicaRole,Commit:=s0_ReplicaCommit,Votes:=s0_ReplicaVotes,Match:=s0_ReplicaMatch }:Replica).Commit),(.sl 1 (List.map rB ({ ID:=s0_ReplicaID,Many:=s0_ReplicaMany,Term:=s0_ReplicaTerm,Vote:=s0_ReplicaVote,Log:=l,Role:=s0_ReplicaRole,Commit:=s0_ReplicaCommit,Votes:=s0_ReplicaVotes,Match:=s0_ReplicaMatch }:Replica).Votes)),(.sl 1 (List.map (rI .i64) ({ ID:=s0_ReplicaID,Many:=s0_ReplicaMany,Term:=s0_ReplicaTerm,Vote:=s0_ReplicaVote,Log:=l,Role:=s0_ReplicaRole,Commit:=s0_ReplicaCommit,Votes:=s0_ReplicaVotes,Match:=s0_ReplicaMatch }:Replica).Match)),v2]]),none,Ba v2 g2 10 (List.map An r)] hI J J J J ⟨(A6 J (A7 J Ao)),?_⟩
 refine Gp<|Bh<|Ay ?_
 exact Fm (K:=3) (N:=0) (a:=r) (vs:=[]) [some (.rows g 10 [[(.I ({ ID:=s0_ReplicaID,Many:=s0_ReplicaMany,Term:=s0_ReplicaTerm,Vote:=s0_ReplicaVote,Log:=l,Role:=s0_ReplicaRole,Commit:=s0_ReplicaCommit,Votes:=s0_ReplicaVotes,Match:=s0_ReplicaMatch }:Replica).ID),(.I ({ ID:=s0_ReplicaID,Many:=s0_ReplicaMany,Term:=s0_ReplicaTerm,Vote:=s0_ReplicaVote,Log:=l,Role:=s0_ReplicaRole,Commit:=s0_ReplicaCommit,Votes:=s0_ReplicaVotes,Match:=s0_ReplicaMatch }:Replica).Many),(.I ({ ID:=s0_ReplicaID,Many:=s0_ReplicaMany,Term:=s0_ReplicaTerm,Vote:=s0_ReplicaVote,Log:=l,Role:=s0_ReplicaRole,Commit:=s0_ReplicaCommit,Votes:=s0_ReplicaVotes,Match:=s0_ReplicaMatch }:Replica).Term),(.I ({ ID:=s0_ReplicaID,Many:=s0_ReplicaMany,Term:=s0_ReplicaTerm,Vote:=s0_ReplicaVote,Log:=l,Role:=s0_ReplicaRole,Commit:=s0_ReplicaCommit,Votes:=s0_ReplicaVotes,Match:=s0_ReplicaMatch }:Replica).Vote),(.sl 2 (List.map Ak ({ ID:=s0_ReplicaID,Many:=s0_ReplicaMany,Term:=s0_ReplicaTerm,Vote:=s0_ReplicaVote,Log:=l,Role:=s0_ReplicaRole,Commit:=s0_ReplicaCommit,Votes:=s0_ReplicaVotes,Match:=s0_ReplicaMatch }:Replica).Log)),(.I ({ ID:=s0_ReplicaID,Many:=s0_ReplicaMany,Term:=s0_ReplicaTerm,Vote:=s0_ReplicaVote,Log:=l,Role:=s0_ReplicaRole,Commit:=s0_ReplicaCommit,Votes:=s0_ReplicaVotes,Match:=s0_ReplicaMatch }:Replica).Role),(.I ({ ID:=s0_ReplicaID,Many:=s0_ReplicaMany,Term:=s0_ReplicaTerm,Vote:=s0_ReplicaVote,Log:=l,Role:=s0_ReplicaRole,Commit:=s0_ReplicaCommit,Votes:=s0_ReplicaVotes,Match:=s0_ReplicaMatch }:Replica).Commit),(.sl 1 (List.map rB ({ ID:=s0_ReplicaID,Many:=s0_ReplicaMany,Term:=s0_ReplicaTerm,Vote:=s0_ReplicaVote,Log:=l,Role:=s0_ReplicaRole,Commit:=s0_ReplicaCommit,Votes:=s0_ReplicaVotes,Match:=s0_ReplicaMatch }:Replica).Votes)),(.sl 1 (List.map (rI .i64) ({ ID:=s0_ReplicaID,Many:=s0_ReplicaMany,Term:=s0_ReplicaTerm,Vote:=s0_ReplicaVote,Log:=l,Role:=s0_ReplicaRole,Commit:=s0_ReplicaCommit,Votes:=s0_ReplicaVotes,Match:=s0_ReplicaMatch }:Replica).Match)),v2]]),none,Ba v2 g2 10 (List.map An r)] Try.func56 hI J J J (.keep (.keep (.keep .nil))) (.same _) ⟨v2,g2,vH1,J,J⟩
theorem Ss (r:Replica)(data:List Int):CP Try.prog 26 [(.agg (A3 r)),(.sl 1 (List.map (rI .u8) data))] (Kl r data) (fun(p:(Replica×(List Message)×Int))=>AV.tup [(.agg (A3 p.1)),(.sl 10 (List.map An p.2.1)),(.int .i64 p.2.2)]):=by
 refine Db (n:=77) 6 Try.func26 J (by decide) J J fun h0 ids hI=>B4 (Ax (Kl.eq_1 _ _) ?_)
 refine Ab<|Y<|Dg (v:=(.agg (A3 r))) (j:=0) hI J J J J J J J fun g=>Ch (j:=1) hI J J J J As J fun g1=>Al 2 [] [] ?_
 refine Ad<|Ay ?_
 refine Ab<|Ab<|Y<|Al 1 [0] [(8,(.agg (A3 r)))] ?_
 refine Bn [(.agg (A3 r))] J J J J ((Lw r) _) (fun v _=>Bp Try.func26 hI) fun e _=>Ac (.I e) J Ap<|Ad<|Ab<|Y<|Al 2 [] [(11,(.bool (e != 0)))] ?_
 refine Ad<|Cn J (fun hc=>?_) (fun hc=>?_)
 ·refine Ab<|Y<|Al 2 [1] [(13,(.I e)),(12,(.agg [(.I 0),(.I 0),(.I 0),(.I 0),.emp,(.I 0),(.I 0),.emp,.emp]))] ?_
  refine Bc (A8 (v:=(.agg [(.I 0),(.I 0),(.I 0),(.I 0),.emp,(.I 0),(.I 0),.emp,.emp])) hI J J J J As J J J J J)<|Al 2 [] [(6,(.I e)),(5,.emp)] ?_
  refine Ad<|Ca (a:=(({ ID:=0,Many:=0,Term:=0,Vote:=0,Log:=[],Role:=0,Commit:=0,Votes:=[],Match:=[] }:Replica),[],e)) (vs:=[(.agg [(.I 0),(.I 0),(.I 0),(.I 0),.emp,(.I 0),(.I 0),.emp,.emp]),.emp,(.I e)]) Try.func26 hI (B7 (Ah hI J J J As J) (Dt (Dt Cq))) (.tupL (.cons (.aggL (.cons (.same _) (.cons (.same _) (.cons (.same _) (.cons (.same _) (.cons (.emp _) (.cons (.same _) (.cons (.same _) (.cons (.emp _) (.cons (.emp _) .nil)))))))))) (.cons (.emp _) (.cons (.same _) .nil))))
 refine Bl<|Ab<|Ab<|Y<|Al 3 [0] [(16,(.bool (r.Role != 2)))] ?_
 refine Ad<|Cn J (fun hc1=>?_) (fun hc1=>?_)
 ·refine Ab<|Y<|Al 1 [1] [(17,(.agg [(.I 0),(.I 0),(.I 0),(.I 0),.emp,(.I 0),(.I 0),.emp,.emp]))] ?_
  refine Bc (A8 (v:=(.agg [(.I 0),(.I 0),(.I 0),(.I 0),.emp,(.I 0),(.I 0),.emp,.emp])) hI J J J J As J J J J J)<|Al 2 [] [(6,(.I 470)),(5,.emp)] ?_
  refine Ad<|Ca (a:=(({ ID:=0,Many:=0,Term:=0,Vote:=0,Log:=[],Role:=0,Commit:=0,Votes:=[],Match:=[] }:Replica),[],470)) (vs:=[(.agg [(.I 0),(.I 0),(.I 0),(.I 0),.emp,(.I 0),(.I 0),.emp,.emp]),.emp,(.I 470)]) Try.func26 hI (B7 (Ah hI J J J As J) (Dt (Dt Cq))) (.tupL (.cons (.aggL (.cons (.same _) (.cons (.same _) (.cons (.same _) (.cons (.same _) (.cons (.emp _) (.cons (.same _) (.cons (.same _) (.cons (.emp _) (.cons (.emp _) .nil)))))))))) (.cons (.emp _) (.cons (.same _) .nil))))
 refine Bl<|Ab<|Ab<|Y<|Al 2 [0] [(19,(.sl 2 (List.map Ak r.Log)))] ?_
 refine Ac (.I (r.Log.length:Int)) J (By (B5 Bu))<|Ac (.bool (decide ((r.Log.length:Int)≥4096))) J (Bk J J J)<|Ad<|H3 J (fun hc2=>?_) (fun hc2=>?_)
 ·refine Ab<|Y<|Al 1 [1] [(22,(.agg [(.I 0),(.I 0),(.I 0),(.I 0),.emp,(.I 0),(.I 0),.emp,.emp]))] ?_
  refine Bc (A8 (v:=(.agg [(.I 0),(.I 0),(.I 0),(.I 0),.emp,(.I 0),(.I 0),.emp,.emp])) hI J J J J As J J J J J)<|Al 2 [] [(6,(.I 2)),(5,.emp)] ?_
  refine Ad<|Ca (a:=(({ ID:=0,Many:=0,Term:=0,Vote:=0,Log:=[],Role:=0,Commit:=0,Votes:=[],Match:=[] }:Replica),[],2)) (vs:=[(.agg [(.I 0),(.I 0),(.I 0),(.I 0),.emp,(.I 0),(.I 0),.emp,.emp]),.emp,(.I 2)]) Try.func26 hI (B7 (Ah hI J J J As J) (Dt (Dt Cq))) (.tupL (.cons (.aggL (.cons (.same _) (.cons (.same _) (.cons (.same _) (.cons (.same _) (.cons (.emp _) (.cons (.same _) (.cons (.same _) (.cons (.emp _) (.cons (.emp _) .nil)))))))))) (.cons (.emp _) (.cons (.same _) .nil))))
 refine Bl<|Ab<|Y<|Al 1 [0] [(23,(.agg (A3 r)))] ?_
 refine Cg [2] hI J J (Na r _ (ix ids 2) (by exact hI.sub' J J)) J J J J J J (fun v _=>Bp Try.func26 hI) ?_
 rintro _ _ _ _ ⟨g2,rfl,rfl⟩
 refine Dr [2] hI J J J ?_
 refine Cw<|Ac (.q ids 2 g2) J Ap<|Ad<|Ay ?_
 refine Ab<|D4 (fun l=>Kh r l) (fun l=>fun(fr:Nat→AV) (h:Ag) => ∃ (v4:AV),∃ (g7:Nat),Bs v4 (ix ids 3) g7 l.length∧fr=A0 [(2,(.q ids 0 g)),(4,(.q ids 1 g1)),(7,(.q ids 2 g2))]∧h=hp h0 ids [(some (.rows g 9 [(A3 r)])),(some (.rows g1 9 [[(.I 0),(.I 0),(.I 0),(.I 0),.emp,(.I 0),(.I 0),.emp,.emp]])),(some (.rows g2 10 [[(.I r.ID),(.I r.Many),(.I r.Term),(.I r.Vote),v4,(.I r.Role),(.I r.Commit),(.sl 1 (List.map rB r.Votes)),(.sl 1 (List.map (rI .i64) r.Match)),.emp]])),(Ba v4 g7 2 (List.map Ak l)),none,none]) ?_ fun hJ=>?_
 ·rintro l fr h ⟨v4,g7,vH4,rfl,rfl⟩
  refine Ax (Kh.eq_1 _ _)<|Ab<|Y<|Al 3 [0] [(43,(.sl 1 (List.map (rI .i64) r.Match))),(41,(.q ids 2 g2))] ?_
  refine Aaw (j:=4) [(.sl 1 (List.map (rI .i64) r.Match))] hI J J J J J J ((Rr r.Match) _ _ (hI.at J J)) (fun v _=>Bp Try.func26 hI) fun r3 _ v5 g8 vH5=>Al 3 [] [(47,(.ptr (ix ids 2) g2 0 8))] ?_
  refine Bc (Cs vH5 hI J J J J Cm J J J)<|Ad<|Ay ?_
  refine Ab<|B2 Da [[],[0],[0,1],[0,1,2],[0,1,2,3],[],[5],[5,6],[5,6,7],[5,6,7,8],[],[10],[10,11],[10,11,12],[10,11,12,13],[10,11,12,13,14],[0,1,2,3,4,4,5,6,7,8,9,9,10,11,12,13,14,15],[0,1,2,3,4,5,6,7,8,9,10,11,12,13,14,15,15,16]] [(false,0),(false,1),(false,2),(false,3),(false,4),(false,5),(false,6),(false,7),(false,8),(false,9),(false,10),(false,11),(false,12),(false,13),(false,14),(false,15),(false,16),(true,17)] (by kernel_rfl)<|O (.q ids 2 g2) J J Z<|O (.q ids 2 g2) J J (Aj J)<|O (.q ids 2 g2) J J (Ae (Ai 0 0 0 Bd J As J))<|O (.ptr (ix ids 2) g2 0 8) J J (Ae (Ai 0 8 8 As J Cm J))<|O v5 J J (Af (Ah hI J J J Cm J)) ?_
  refine O (.q ids 2 g2) J J Z<|O (.q ids 2 g2) J J (Aj J)<|O (.q ids 2 g2) J J (Ae (Ai 0 0 0 Bd J As J))<|O (.q ids 2 g2) J J (Ae (Ai 0 0 0 As J Aq J))<|O (.I r.ID) J J (Af (Ah hI J J J Aq J))<|O (.q ids 2 g2) J J Z<|O (.q ids 2 g2) J J (Aj J) ?_
  refine O (.q ids 2 g2) J J (Ae (Ai 0 0 0 Bd J As J))<|O (.ptr (ix ids 2) g2 0 4) J J (Ae (Ai 0 4 4 As J Bu J))<|O v4 J J (Af (Ah hI J J J Bu J))<|O (.I (l.length:Int)) J J (By (Bs.len vH4 Bu))<|Gq fun a hz hx1=>O (.ptr (ix ids 4) g8 r.ID.toNat 0) J J (Bq (P3 hI J vH5 J Cm Aq J hz hx1))<|Bo J (fun _ _=>J) (fun K hK=>A5 (Wo (y:=(l.length:Int)) hI J J vH5 J hx1 Aq J J J J J J) (hK _ _ (A6 J (A6 J (Au J Ao))) ?_))
  clear hK K
  have vH6:=Bs.set (i:=r.ID.toNat) (y:=(l.length:Int)) vH5
  have hx2:=List.getElem?_set_self (a:=(l.length:Int)) (Cc hx1)
  refine Bh<|Ay ?_
  refine Ab<|Y<|Ac (.q ids 2 g2) J Z<|Cg [2,3,4] hI J J (S9 r.ID r.Many r.Term r.Vote r.Role r.Commit r.Votes l (r3.set r.ID.toNat (l.length:Int)) _ (ix ids 2) (ix ids 3) (ix ids 4) g2 v4 g7 v5 g8 vH4 vH6 (by exact hI.sub' J J)) J J J J J J (fun v _=>Bp Try.func26 hI) ?_
  rintro r4 _ _ _ ⟨v6,g9,vH7,rfl,rfl⟩
  refine Dr [2,3,4] hI J J J ?_
  refine Cw<|Ad<|Ay ?_
  refine Ab<|Y<|Ac (.q ids 2 g2) J Z<|Cg [2,3,5] hI J J (U4 r.ID r.Many r.Term r.Vote r.Role r4.1 r.Votes (r3.set r.ID.toNat (l.length:Int)) r4.2 _ (ix ids 2) (ix ids 3) (ix ids 5) g2 v6 g9 vH7 (by exact hI.sub' J J)) J J J J J J (fun v _=>Bp Try.func26 hI) ?_
  rintro r5 _ _ _ ⟨v7,g10,vH8,rfl,rfl⟩
  refine Dr [2,3,5] hI J J J ?_
  refine Cw<|Ad<|Ay ?_
  refine Ab<|B2 Da [[],[0],[0,1],[0,1,2],[],[4],[4,5],[4,5,6],[0,1,2,3,3],[0,1,2,3,4,5,6,7,7,8,8],[0,1,2,3,4,5,6,7,8,9,9]] [(false,0),(false,1),(false,2),(false,3),(false,4),(false,5),(false,6),(false,7),(true,8),(false,9),(false,10)] (by kernel_rfl)<|O (.q ids 2 g2) J J Z<|O (.q ids 2 g2) J J (Aj J)<|O (.q ids 2 g2) J J (Ae (Ai 0 0 0 Bd J As J))<|O (.agg (A3 ({ ID:=r.ID,Many:=r.Many,Term:=r.Term,Vote:=r.Vote,Log:=r4.2,Role:=r.Role,Commit:=r4.1,Votes:=r.Votes,Match:=(r3.set r.ID.toNat (l.length:Int)) }:Replica))) J J (Af (Ah hI J J J As J))<|O (.q ids 2 g2) J J Z ?_
  refine O (.q ids 2 g2) J J (Aj J)<|O (.ptr (ix ids 2) g2 0 9) J J (Ae (Ai 0 9 1 Bd J C7 J))<|O v7 J J (Af (Ah hI J J J C7 J))<|Bo J (fun _ _=>J) (fun K hK=>A5 (A8 (v:=(.agg (A3 ({ ID:=r.ID,Many:=r.Many,Term:=r.Term,Vote:=r.Vote,Log:=r4.2,Role:=r.Role,Commit:=r4.1,Votes:=r.Votes,Match:=(r3.set r.ID.toNat (l.length:Int)) }:Replica)))) hI J J J J As J J J J J) (hK _ _ (Aa J (Af (Ah hI J J J C7 J)) (Aa J (Ae (Ai 0 9 1 Bd J C7 J)) (Aa J (Aj J) (Aa J Z (A7 J Ao))))) ?_))
  clear hK K
  refine O v7 J J Ap<|O (.I 0) J J Ap<|Bh<|Ay ?_
  exact Ca (a:=(({ ID:=r.ID,Many:=r.Many,Term:=r.Term,Vote:=r.Vote,Log:=r4.2,Role:=r.Role,Commit:=r4.1,Votes:=r.Votes,Match:=(r3.set r.ID.toNat (l.length:Int)) }:Replica),r5,0)) (vs:=[(.agg (A3 ({ ID:=r.ID,Many:=r.Many,Term:=r.Term,Vote:=r.Vote,Log:=r4.2,Role:=r.Role,Commit:=r4.1,Votes:=r.Votes,Match:=(r3.set r.ID.toNat (l.length:Int)) }:Replica))),v7,(.I 0)]) Try.func26 hI (B7 (Ah hI J J J As J) (Dt (Dt Cq))) (.tupL (.cons (.same _) (.cons (Dp vH8 (hI.at J J) (hI.out J) (fun x=>Iw x)) (.cons (.same _) .nil))))
 refine R5 Da (.node 11 3 (.leaf [[],[],[1],[1,2],[],[4],[4,5],[4,5,6],[4,5,6,7],[],[4,5,6,7,8,9],[1,2,3,4,5,6,7,8,9,10],[1,2,3,4,5,6,7,8,9,10,11],[0,0,1,2,3,4,5,6,7,8,9,10,11,12],[0,1,2,3,4,5,6,7,8,9,10,11,12,13],[0,1,2,3,4,5,6,7,8,9,10,11,12,13,14],[0,1,2,3,4,5,6,7,8,9,10,11,12,13,14,15]] [(false,0),(false,1),(false,2),(false,4),(false,5),(false,6),(false,7),(false,8),(false,9),(false,10),(true,3),(true,11),(true,12),(false,13),(false,14),(false,15),(true,16)]) (.leaf [[],[],[1],[1,2,4,5,6,7,8,9,10,11],[],[4],[4,5],[4,5,6],[4,5,6,7],[],[4,5,6,7,8,9],[4,5,6,7,8,9,10],[1,2,3,4,5,6,7,8,9,10,11],[0,0,1,2,3,4,5,6,7,8,9,10,11,12],[0,1,2,3,4,5,6,7,8,9,10,11,12,13],[0,1,2,3,4,5,6,7,8,9,10,11,12,13,14],[0,1,2,3,4,5,6,7,8,9,10,11,12,13,14,15]] [(false,0),(false,1),(false,2),(false,4),(false,5),(false,6),(false,7),(false,8),(false,9),(false,10),(true,11),(true,3),(true,12),(false,13),(false,14),(false,15),(true,16)])) (by kernel_rfl)<|Ii ?_ ?_
 ·refine Ge<|O (.q ids 2 g2) J J Z<|O (.ptr (ix ids 0) g 0 4) J J (Ae (Ai 0 4 4 As J Bu J))<|O (.sl 2 (List.map Ak r.Log)) J J (Af (Ah hI J J J Bu J))<|O (.q ids 2 g2) J J Z<|O (.q ids 2 g2) J J (Aj J)<|O (.q ids 2 g2) J J (Ae (Ai 0 0 0 Bd J As J)) ?_
  refine O (.ptr (ix ids 2) g2 0 2) J J (Ae (Ai 0 2 2 As J Aq J))<|O (.I r.Term) J J (Af (Ah hI J J J Aq J))<|O (.sl 1 (List.map (rI .u8) data)) J J Z<|O (.agg [(.I r.Term),(.sl 1 (List.map (rI .u8) data))]) J J (C5 (Fg Ds Acs J))<|Aeq (j:=3) [(.sl 2 (List.map Ak r.Log))] J hI J J J J J J ((Qb r.Log) _ _ (hI.at J J)) (fun v _ _ _=>Bp Try.func26 hI) fun r1 _ v g3 vH=>⟨(Aa J (C5 (Fg Ds Acs J)) (Aa J Z (Aa J (Af (Ah hI J J J Aq J)) (Aa J (Ae (Ai 0 2 2 As J Aq J)) (Aa J (Ae (Ai 0 0 0 Bd J As J)) (Aa J (Aj J) (Aa J Z (A9 J (Aa J Z Ao))))))))),?_⟩
  refine Cf J J (fun _ _=>J) (fun K hK=>Gv (e:=Ak) (L:=[({ Term:=r.Term,Data:=data }:Record)]) (st:=2) (rows:=[[(.I r.Term),(.sl 1 (List.map (rI .u8) data))]]) Bu Ds J J J J J (.cons (.cons (.same _) (.cons (.same _) .nil)) .nil) (fun x=>Mt x) J J (hK _ _ (A6 J (Au J (Aa J Z Ao))) ?_))
  clear hK K
  refine Cb fun hl=>Cf J J (fun _ _=>J) (fun K hK=>D8 (e:=Ak) (L:=r1) (L2:=[({ Term:=r.Term,Data:=data }:Record)]) (v:=v) (g:=g3) (st:=2) (j:=3) hI J J J vH J (Fr J) Bu Bu J Ds J J J hl fun v1 g4 vH1=>hK _ _ (A6 J (Au J (Aa J Z Ao))) ?_)
  clear hK K
  refine O (.q ids 2 g2) J J (Aj J)<|O (.q ids 2 g2) J J (Ae (Ai 0 0 0 Bd J As J))<|O (.ptr (ix ids 2) g2 0 4) J J (Ae (Ai 0 4 4 As J Bu J))<|Bo J (fun _ _=>J) (fun K hK=>A5 (Cs vH1 hI J J J J Bu J J J) (hK _ _ (A6 J (A7 J (Au J Ao))) ?_))
  clear hK K
  refine Bh<|Ay ?_
  exact Bt (hJ (r1++[({ Term:=r.Term,Data:=data }:Record)]) _ _ ⟨v1,g4,vH1,J,J⟩)
 refine Ge<|O (.q ids 2 g2) J J Z<|O (.ptr (ix ids 0) g 0 4) J J (Ae (Ai 0 4 4 As J Bu J))<|O (.sl 2 (List.map Ak r.Log)) J J (Af (Ah hI J J J Bu J))<|O (.q ids 2 g2) J J Z<|O (.q ids 2 g2) J J (Aj J)<|O (.q ids 2 g2) J J (Ae (Ai 0 0 0 Bd J As J)) ?_
 refine O (.ptr (ix ids 2) g2 0 2) J J (Ae (Ai 0 2 2 As J Aq J))<|O (.I r.Term) J J (Af (Ah hI J J J Aq J))<|O (.sl 1 (List.map (rI .u8) data)) J J Z<|O (.agg [(.I r.Term),(.sl 1 (List.map (rI .u8) data))]) J J (C5 (Fg Ds Acs J))<|Cf J J (fun _ _=>J) (fun K hK=>Gv (e:=Ak) (L:=[({ Term:=r.Term,Data:=data }:Record)]) (st:=2) (rows:=[[(.I r.Term),(.sl 1 (List.map (rI .u8) data))]]) Bu Ds J J J J J (.cons (.cons (.same _) (.cons (.same _) .nil)) .nil) (fun x=>Mt x) J J (hK _ _ (A7 J (A9 J (Au J (Aa J (Af (Ah hI J J J Bu J)) (Aa J (Ae (Ai 0 4 4 As J Bu J)) (Aa J Z Ao)))))) ?_))
 clear hK K
 refine Aeq (j:=3) [(.sl 2 (List.map Ak r.Log))] J hI J J J J J J ((Qb r.Log) _ _ (hI.at J J)) (fun v _ _ _=>Bp Try.func26 hI) fun r2 _ v2 g5 vH2=>⟨(A6 J (Au J (Aa J Z Ao))),?_⟩
 refine Cb fun hl1=>Cf J J (fun _ _=>J) (fun K hK=>D8 (e:=Ak) (L:=r2) (L2:=[({ Term:=r.Term,Data:=data }:Record)]) (v:=v2) (g:=g5) (st:=2) (j:=3) hI J J J vH2 J (Fr J) Bu Bu J Ds J J J hl1 fun v3 g6 vH3=>hK _ _ (A6 J (Au J (Aa J Z Ao))) ?_)
 clear hK K
 refine O (.q ids 2 g2) J J (Aj J)<|O (.q ids 2 g2) J J (Ae (Ai 0 0 0 Bd J As J))<|O (.ptr (ix ids 2) g2 0 4) J J (Ae (Ai 0 4 4 As J Bu J))<|Bo J (fun _ _=>J) (fun K hK=>A5 (Cs vH3 hI J J J J Bu J J J) (hK _ _ (A6 J (A7 J (Au J Ao))) ?_))
 clear hK K
 refine Bh<|Ay ?_
 exact Bt (hJ (r2++[({ Term:=r.Term,Data:=data }:Record)]) _ _ ⟨v3,g6,vH3,J,J⟩)
theorem Il (a0:AV)(h:Ag):J1 Try.prog 44 [a0] .ret h (R6 (fun _:Unit=>h) .ret (.ok ())):=by
 refine Pw (n:=3) Try.func44 J (by decide) J J ?_ ⟨(),J⟩
 refine B4 (Ax (m':=(Iy).bind fun _ =>   .ok ()) J ?_)
 refine Y<|Ze J<|Bn [.nili,a0] J J J J ((Qf a0) _) (fun v hv=>by unfold Iy at hv; cases hv) fun _ _=>?_
 refine Ad<|Q7 Try.func44 J J J
theorem Ja (s_Replica:Replica)(h0:Ag)(o0:Nat)(o1:Nat)(o2:Nat)(w:AV)(g:Nat)(hI0:Ids h0 [o0,o1,o2] 3):C3 s_Replica≠.bad→Bw Try.prog 47 [(.ptr o0 g 0 0)] (hp h0 [o0,o1,o2] [some (.rows g 10 [[(.int .i64 s_Replica.ID),(.int .i64 s_Replica.Many),(.int .i64 s_Replica.Term),(.int .i64 s_Replica.Vote),(.sl 2 (List.map Ak s_Replica.Log)),(.int .i64 s_Replica.Role),(.int .i64 s_Replica.Commit),(.sl 1 (List.map rB s_Replica.Votes)),(.sl 1 (List.map (rI .i64) s_Replica.Match)),w]]),none,none]) (Ec (fun a_ v h' => ∃ (v19:AV),∃ (g19:Nat),∃ (v20:AV),∃ (g20:Nat),Bs v19 o1 g19 a_.1.length∧Bs v20 o2 g20 a_.2.length∧v=(.tup [])∧h'=hp h0 [o0,o1,o2] [some (.rows g 10 [[(.int .i64 s_Replica.ID),(.int .i64 s_Replica.Many),(.int .i64 s_Replica.Term),(.int .i64 s_Replica.Vote),(.sl 2 (List.map Ak s_Replica.Log)),(.int .i64 0),(.int .i64 s_Replica.Commit),v19,v20,w]]),Ba v19 g19 1 (List.map rB a_.1),Ba v20 g20 1 (List.map (rI .i64) a_.2)]) h0 (C3 s_Replica)):=by
 refine Cp (n:=30) 0 Try.func47 J (by decide) J J hI0 J fun ids he hI=>?_
 clear hI0
 obtain rfl:ix ids 0=o0:=he 0 rfl
 obtain rfl:ix ids 1=o1:=he 1 rfl
 obtain rfl:ix ids 2=o2:=he 2 rfl
 clear he
 refine B4 (Ax (C3.eq_1 _) ?_)
 refine Ab<|Y<|Ac (.I 0) J Ap<|Ad<|Ab<|Ab<|Y ?_
 refine Al 5 [0] [(7,(.I s_Replica.Many))] ?_
 refine Bn [(.I s_Replica.Many),(.I 0),(.I 5)] J J J J ((C9 s_Replica.Many 0 5) _) (fun v _=>B8 (K:=3) (N:=0) Try.func47 hI) fun r _=>Ad<|D4 (fun n=>Jc n) (fun n=>fun(fr:Nat→AV) (h:Ag)=>fr=A0 [(0,(.q ids 0 g)),(2,(.I n))]∧h=hp h0 ids [(some (.rows g 10 [[(.I s_Replica.ID),(.I s_Replica.Many),(.I s_Replica.Term),(.I s_Replica.Vote),(.sl 2 (List.map Ak s_Replica.Log)),(.I s_Replica.Role),(.I s_Replica.Commit),(.sl 1 (List.map rB s_Replica.Votes)),(.sl 1 (List.map (rI .i64) s_Replica.Match)),w]])),none,none]) ?_ fun hJ1=>?_
 ·rintro n fr h ⟨rfl,rfl⟩
  refine Ax (Jc.eq_1 _)<|D4 (Eu fun l l1=>K5 l l1) (Eu fun l l1=>fun(fr:Nat→AV) (h:Ag) => ∃ (v17:AV),∃ (g17:Nat),∃ (v18:AV),∃ (g18:Nat),Bs v17 (ix ids 1) g17 l.length∧Bs v18 (ix ids 2) g18 l1.length∧fr=A0 []∧h=hp h0 ids [(some (.rows g 10 [[(.I s_Replica.ID),(.I s_Replica.Many),(.I s_Replica.Term),(.I s_Replica.Vote),(.sl 2 (List.map Ak s_Replica.Log)),(.I 0),(.I s_Replica.Commit),v17,v18,w]])),(Ba v17 g17 1 (List.map rB l)),(Ba v18 g18 1 (List.map (rI .i64) l1))]) ?_ fun hJ=>?_
  ·rintro⟨l,l1⟩ fr h ⟨v17,g17,v18,g18,vH16,vH17,rfl,rfl⟩
   refine Ax (K5.eq_1 _ _)<|Fm (K:=3) (N:=0) (a:=(l,l1)) (vs:=[]) [some (.rows g 10 [[(.I s_Replica.ID),(.I s_Replica.Many),(.I s_Replica.Term),(.I s_Replica.Vote),(.sl 2 (List.map Ak s_Replica.Log)),(.I 0),(.I s_Replica.Commit),v17,v18,w]]),Ba v17 g17 1 (List.map rB l),Ba v18 g18 1 (List.map (rI .i64) l1)] Try.func47 hI J J J (.keep (.keep (.keep .nil))) (.same _) ⟨v17,g17,v18,g18,vH16,vH17,J,J⟩
  refine R5 Da (.node 14 6 (.node 10 6 (.node 10 4 (.node 6 4 (.leaf [[],[],[],[],[3,3],[],[3,4,5],[0,0],[0,7],[0,7,8],[0,3,4,5,6,7,8,9],[0,1,3,4,5,6,7,8,9,10],[0,1,3,4,5,6,7,8,9,10,11],[0,1,3,4,5,6,7,8,9,10,11,12],[0,1,3,4,5,6,7,8,9,10,11,12,13],[0,1,2,2,3,4,5,6,7,8,9,10,11,12,13,14],[0,1,2,3,4,5,6,7,8,9,10,11,12,13,14,15],[0,1,2,3,4,5,6,7,8,9,10,11,12,13,14,15,16],[0,1,2,3,4,5,6,7,8,9,10,11,12,13,14,15,16,17]] [(false,0),(false,1),(false,2),(false,3),(false,5),(false,7),(false,8),(false,9),(true,4),(true,6),(true,10),(false,11),(false,12),(false,13),(true,14),(false,15),(false,16),(false,17),(true,18)]) (.leaf [[],[],[],[],[3,5,6],[],[5,5],[0,0],[0,7],[0,7,8],[0,3,4,5,6,7,8,9],[0,1,3,4,5,6,7,8,9,10],[0,1,3,4,5,6,7,8,9,10,11],[0,1,3,4,5,6,7,8,9,10,11,12],[0,1,3,4,5,6,7,8,9,10,11,12,13],[0,1,2,2,3,4,5,6,7,8,9,10,11,12,13,14],[0,1,2,3,4,5,6,7,8,9,10,11,12,13,14,15],[0,1,2,3,4,5,6,7,8,9,10,11,12,13,14,15,16],[0,1,2,3,4,5,6,7,8,9,10,11,12,13,14,15,16,17]] [(false,0),(false,1),(false,2),(false,3),(false,5),(false,7),(false,8),(false,9),(true,6),(true,4),(true,10),(false,11),(false,12),(false,13),(true,14),(false,15),(false,16),(false,17),(true,18)])) (.leaf [[],[],[],[],[0,3,5,6,7,8,9,10],[],[5,5],[0,0],[0,7],[0,7,8],[0,5,6,7,8,9],[0,1,3,4,5,6,7,8,9,10],[0,1,3,4,5,6,7,8,9,10,11],[0,1,3,4,5,6,7,8,9,10,11,12],[0,1,3,4,5,6,7,8,9,10,11,12,13],[0,1,2,2,3,4,5,6,7,8,9,10,11,12,13,14],[0,1,2,3,4,5,6,7,8,9,10,11,12,13,14,15],[0,1,2,3,4,5,6,7,8,9,10,11,12,13,14,15,16],[0,1,2,3,4,5,6,7,8,9,10,11,12,13,14,15,16,17]] [(false,0),(false,1),(false,2),(false,3),(false,5),(false,7),(false,8),(false,9),(true,6),(true,10),(true,4),(false,11),(false,12),(false,13),(true,14),(false,15),(false,16),(false,17),(true,18)])) (.node 6 4 (.node 10 4 (.leaf [[],[],[],[],[3,3],[],[0,3,4,5,7,8,9,10],[0,0],[0,7],[0,7,8],[0,3,4,7,8,9],[0,1,1,3,4,7,8,9,10],[0,1,3,4,7,8,9,10,11],[0,1,3,4,7,8,9,10,11,12],[0,1,3,4,5,6,7,8,9,10,11,12,13],[0,1,2,2,3,4,5,6,7,8,9,10,11,12,13,14],[0,1,2,3,4,5,6,7,8,9,10,11,12,13,14,15],[0,1,2,3,4,5,6,7,8,9,10,11,12,13,14,15,16],[0,1,2,3,4,5,6,7,8,9,10,11,12,13,14,15,16,17]] [(false,0),(false,1),(false,2),(false,3),(false,5),(false,7),(false,8),(false,9),(true,4),(true,10),(false,11),(false,12),(false,13),(true,6),(true,14),(false,15),(false,16),(false,17),(true,18)]) (.leaf [[],[],[],[],[0,3,7,8,9,10],[],[0,3,4,5,7,8,9,10],[0,0],[0,7],[0,7,8],[0,7,8,9],[0,1,1,3,4,7,8,9,10],[0,1,3,4,7,8,9,10,11],[0,1,3,4,7,8,9,10,11,12],[0,1,3,4,5,6,7,8,9,10,11,12,13],[0,1,2,2,3,4,5,6,7,8,9,10,11,12,13,14],[0,1,2,3,4,5,6,7,8,9,10,11,12,13,14,15],[0,1,2,3,4,5,6,7,8,9,10,11,12,13,14,15,16],[0,1,2,3,4,5,6,7,8,9,10,11,12,13,14,15,16,17]] [(false,0),(false,1),(false,2),(false,3),(false,5),(false,7),(false,8),(false,9),(true,10),(true,4),(false,11),(false,12),(false,13),(true,6),(true,14),(false,15),(false,16),(false,17),(true,18)])) (.leaf [[],[],[],[],[0,3,5,6,7,8,9,10],[],[0,5,7,8,9,10],[0,0],[0,7],[0,7,8],[0,7,8,9],[0,1,3,4,5,6,7,8,9,10],[0,1,3,4,5,6,7,8,9,10,11],[0,1,3,4,5,6,7,8,9,10,11,12],[0,1,3,4,5,6,7,8,9,10,11,12,13],[0,1,2,2,3,4,5,6,7,8,9,10,11,12,13,14],[0,1,2,3,4,5,6,7,8,9,10,11,12,13,14,15],[0,1,2,3,4,5,6,7,8,9,10,11,12,13,14,15,16],[0,1,2,3,4,5,6,7,8,9,10,11,12,13,14,15,16,17]] [(false,0),(false,1),(false,2),(false,3),(false,5),(false,7),(false,8),(false,9),(true,10),(true,6),(true,4),(false,11),(false,12),(false,13),(true,14),(false,15),(false,16),(false,17),(true,18)]))) (.node 10 4 (.leaf [[],[],[],[],[3,3],[],[0,1,3,4,5,7,8,9,10,11,12,13,14],[0,0],[0,7],[0,7,8],[0,3,4,7,8,9],[0,1,1,3,4,7,8,9,10],[0,1,3,4,7,8,9,10,11],[0,1,3,4,7,8,9,10,11,12],[0,1,3,4,7,8,9,10,11,12,13],[0,1,2,2,3,4,5,6,7,8,9,10,11,12,13,14],[0,1,2,3,4,5,6,7,8,9,10,11,12,13,14,15],[0,1,2,3,4,5,6,7,8,9,10,11,12,13,14,15,16],[0,1,2,3,4,5,6,7,8,9,10,11,12,13,14,15,16,17]] [(false,0),(false,1),(false,2),(false,3),(false,5),(false,7),(false,8),(false,9),(true,4),(true,10),(false,11),(false,12),(false,13),(true,14),(true,6),(false,15),(false,16),(false,17),(true,18)]) (.leaf [[],[],[],[],[0,3,7,8,9,10],[],[0,1,3,4,5,7,8,9,10,11,12,13,14],[0,0],[0,7],[0,7,8],[0,7,8,9],[0,1,1,3,4,7,8,9,10],[0,1,3,4,7,8,9,10,11],[0,1,3,4,7,8,9,10,11,12],[0,1,3,4,7,8,9,10,11,12,13],[0,1,2,2,3,4,5,6,7,8,9,10,11,12,13,14],[0,1,2,3,4,5,6,7,8,9,10,11,12,13,14,15],[0,1,2,3,4,5,6,7,8,9,10,11,12,13,14,15,16],[0,1,2,3,4,5,6,7,8,9,10,11,12,13,14,15,16,17]] [(false,0),(false,1),(false,2),(false,3),(false,5),(false,7),(false,8),(false,9),(true,10),(true,4),(false,11),(false,12),(false,13),(true,14),(true,6),(false,15),(false,16),(false,17),(true,18)]))) (by kernel_rfl)<|Ii ?_ ?_
  ·refine Ii ?_ ?_
   ·refine Ii ?_ ?_
    ·refine Ii ?_ ?_
     ·refine Ge<|O (.q ids 0 g) J J Z<|O (.q ids 0 g) J J Z<|O (.q ids 0 g) J J Z<|O (.I n) J J Z<|O (.I n) J J Z<|O (.q ids 0 g) J J (Aj J) ?_
      refine O (.q ids 0 g) J J (Ae (Ai 0 0 0 Bd J As J))<|O (.ptr (ix ids 0) g 0 5) J J (Ae (Ai 0 5 5 As J Aq J))<|Cb fun hl=>Cf J J (fun _ _=>J) (fun K hK=>Dc (y:=(false:Bool)) (e:=rB) (st:=1) (j:=1) hI J J J Dm Hf J J hl.1 hl.2.1 hl.2.2 J J J J J fun v1 g1 vH=>hK _ _ (Aa J (Ae (Ai 0 5 5 As J Aq J)) (Aa J (Ae (Ai 0 0 0 Bd J As J)) (Aa J (Aj J) (Aa J Z (Au J (Aa J Z (Aa J Z (Aa J Z Ao)))))))) ?_)
      clear hK K
      refine Cb fun hl1=>Cf J J (fun _ _=>J) (fun K hK=>Dc (y:=(0:Int)) (e:=(rI .i64)) (st:=1) (j:=2) hI J J J Cm Aq J J hl1.1 hl1.2.1 hl1.2.2 J J J J J fun v2 g2 vH1=>hK _ _ (Aa J (Ae (Ai 0 5 5 As J Aq J)) (Aa J (Ae (Ai 0 0 0 Bd J As J)) (Aa J (Aj J) (A9 J (Aa J Z (Aa J Z (Aa J Z Ao))))))) ?_)
      clear hK K
      refine Bo J (fun _ _=>J) (fun K hK=>A5 (A8 (v:=(.I 0)) hI J J J J Aq J J J J J) (hK _ _ (A7 J (Au J (Aa J Z (Aa J Z (Au J Ao))))) ?_))
      clear hK K
      refine O (.q ids 0 g) J J (Aj J)<|O (.q ids 0 g) J J (Ae (Ai 0 0 0 Bd J As J))<|O (.ptr (ix ids 0) g 0 7) J J (Ae (Ai 0 7 7 As J Dm J))<|Bo J (fun _ _=>J) (fun K hK=>A5 (Cs vH hI J J J J Dm J J J) (hK _ _ (A6 J (Aa J Z (A9 J Ao))) ?_))
      clear hK K
      refine O (.q ids 0 g) J J (Aj J)<|O (.q ids 0 g) J J (Ae (Ai 0 0 0 Bd J As J))<|O (.ptr (ix ids 0) g 0 8) J J (Ae (Ai 0 8 8 As J Cm J))<|Bo J (fun _ _=>J) (fun K hK=>A5 (Cs vH1 hI J J J J Cm J J J) (hK _ _ (A6 J (A7 J (A9 J Ao))) ?_))
      clear hK K
      refine Bh<|Ay ?_
      exact Bt (hJ ((List.replicate (Int.toNat n) false),(List.replicate (Int.toNat n) (0:Int))) _ _ ⟨v1,g1,v2,g2,vH,vH1,J,J⟩)
     refine Ge<|Cb fun hl3=>Cb fun hl2=>O (.q ids 0 g) J J Z<|O (.q ids 0 g) J J Z<|O (.q ids 0 g) J J Z<|O (.I n) J J Z ?_
     refine O (.I n) J J Z<|O (.q ids 0 g) J J (Aj J)<|O (.q ids 0 g) J J (Ae (Ai 0 0 0 Bd J As J))<|O (.ptr (ix ids 0) g 0 5) J J (Ae (Ai 0 5 5 As J Aq J))<|Cf J J (fun _ _=>J) (fun K hK=>Dc (y:=(0:Int)) (e:=(rI .i64)) (st:=1) (j:=2) hI J J J Cm Aq J J hl2.1 hl2.2.1 hl2.2.2 J J J J J fun v3 g3 vH2=>hK _ _ (Aa J (Ae (Ai 0 5 5 As J Aq J)) (Aa J (Ae (Ai 0 0 0 Bd J As J)) (Aa J (Aj J) (Au J (Aa J Z (Aa J Z (Aa J Z (Aa J Z Ao)))))))) ?_)
     clear hK K
     refine Cf J J (fun _ _=>J) (fun K hK=>Dc (y:=(false:Bool)) (e:=rB) (st:=1) (j:=1) hI J J J Dm Hf J J hl3.1 hl3.2.1 hl3.2.2 J J J J J fun v4 g4 vH3=>hK _ _ (Aa J (Ae (Ai 0 5 5 As J Aq J)) (Aa J (Ae (Ai 0 0 0 Bd J As J)) (Aa J (Aj J) (A9 J (Aa J Z (Aa J Z (Aa J Z Ao))))))) ?_)
     clear hK K
     refine Bo J (fun _ _=>J) (fun K hK=>A5 (A8 (v:=(.I 0)) hI J J J J Aq J J J J J) (hK _ _ (A7 J (Au J (Aa J Z (Aa J Z (Au J Ao))))) ?_))
     clear hK K
     refine O (.q ids 0 g) J J (Aj J)<|O (.q ids 0 g) J J (Ae (Ai 0 0 0 Bd J As J))<|O (.ptr (ix ids 0) g 0 7) J J (Ae (Ai 0 7 7 As J Dm J))<|Bo J (fun _ _=>J) (fun K hK=>A5 (Cs vH3 hI J J J J Dm J J J) (hK _ _ (A6 J (Aa J Z (A9 J Ao))) ?_))
     clear hK K
     refine O (.q ids 0 g) J J (Aj J)<|O (.q ids 0 g) J J (Ae (Ai 0 0 0 Bd J As J))<|O (.ptr (ix ids 0) g 0 8) J J (Ae (Ai 0 8 8 As J Cm J))<|Bo J (fun _ _=>J) (fun K hK=>A5 (Cs vH2 hI J J J J Cm J J J) (hK _ _ (A6 J (A7 J (A9 J Ao))) ?_))
     clear hK K
     refine Bh<|Ay ?_
     exact Bt (hJ ((List.replicate (Int.toNat n) false),(List.replicate (Int.toNat n) (0:Int))) _ _ ⟨v4,g4,v3,g3,vH3,vH2,J,J⟩)
    refine Ge<|Cb fun hl5=>Cb fun hl4=>O (.q ids 0 g) J J Z<|O (.q ids 0 g) J J Z<|O (.q ids 0 g) J J Z<|O (.I n) J J Z ?_
    refine O (.I n) J J Z<|O (.q ids 0 g) J J (Aj J)<|O (.q ids 0 g) J J (Ae (Ai 0 0 0 Bd J As J))<|O (.ptr (ix ids 0) g 0 5) J J (Ae (Ai 0 5 5 As J Aq J))<|Cf J J (fun _ _=>J) (fun K hK=>Dc (y:=(0:Int)) (e:=(rI .i64)) (st:=1) (j:=2) hI J J J Cm Aq J J hl4.1 hl4.2.1 hl4.2.2 J J J J J fun v5 g5 vH4=>hK _ _ (Aa J (Ae (Ai 0 5 5 As J Aq J)) (Aa J (Ae (Ai 0 0 0 Bd J As J)) (Aa J (Aj J) (Au J (Aa J Z (Aa J Z (Aa J Z (Aa J Z Ao)))))))) ?_)
    clear hK K
    refine Bo J (fun _ _=>J) (fun K hK=>A5 (A8 (v:=(.I 0)) hI J J J J Aq J J J J J) (hK _ _ (A7 J (Aa J Z (Aa J Z (Aa J Z (Au J Ao))))) ?_))
    clear hK K
    refine Cf J J (fun _ _=>J) (fun K hK=>Dc (y:=(false:Bool)) (e:=rB) (st:=1) (j:=1) hI J J J Dm Hf J J hl5.1 hl5.2.1 hl5.2.2 J J J J J fun v6 g6 vH5=>hK _ _ (A7 J (Au J (Aa J Z (Aa J Z (Au J Ao))))) ?_)
    clear hK K
    refine O (.q ids 0 g) J J (Aj J)<|O (.q ids 0 g) J J (Ae (Ai 0 0 0 Bd J As J))<|O (.ptr (ix ids 0) g 0 7) J J (Ae (Ai 0 7 7 As J Dm J))<|Bo J (fun _ _=>J) (fun K hK=>A5 (Cs vH5 hI J J J J Dm J J J) (hK _ _ (A6 J (Aa J Z (A9 J Ao))) ?_))
    clear hK K
    refine O (.q ids 0 g) J J (Aj J)<|O (.q ids 0 g) J J (Ae (Ai 0 0 0 Bd J As J))<|O (.ptr (ix ids 0) g 0 8) J J (Ae (Ai 0 8 8 As J Cm J))<|Bo J (fun _ _=>J) (fun K hK=>A5 (Cs vH4 hI J J J J Cm J J J) (hK _ _ (A6 J (A7 J (A9 J Ao))) ?_))
    clear hK K
    refine Bh<|Ay ?_
    exact Bt (hJ ((List.replicate (Int.toNat n) false),(List.replicate (Int.toNat n) (0:Int))) _ _ ⟨v6,g6,v5,g5,vH5,vH4,J,J⟩)
   refine Ii ?_ ?_
   ·refine Ii ?_ ?_
    ·refine Ge<|Cb fun hl6=>Cb fun hl7=>O (.q ids 0 g) J J Z<|O (.q ids 0 g) J J Z<|O (.q ids 0 g) J J Z<|O (.I n) J J Z ?_
     refine O (.I n) J J Z<|O (.q ids 0 g) J J (Aj J)<|O (.q ids 0 g) J J (Ae (Ai 0 0 0 Bd J As J))<|O (.ptr (ix ids 0) g 0 5) J J (Ae (Ai 0 5 5 As J Aq J))<|Cf J J (fun _ _=>J) (fun K hK=>Dc (y:=(false:Bool)) (e:=rB) (st:=1) (j:=1) hI J J J Dm Hf J J hl6.1 hl6.2.1 hl6.2.2 J J J J J fun v7 g7 vH6=>hK _ _ (Aa J (Ae (Ai 0 5 5 As J Aq J)) (Aa J (Ae (Ai 0 0 0 Bd J As J)) (Aa J (Aj J) (Aa J Z (Au J (Aa J Z (Aa J Z (Aa J Z Ao)))))))) ?_)
     clear hK K
     refine Bo J (fun _ _=>J) (fun K hK=>A5 (A8 (v:=(.I 0)) hI J J J J Aq J J J J J) (hK _ _ (A9 J (Au J (Aa J Z (Au J (Aa J Z (Aa J Z (Au J Ao))))))) ?_))
     clear hK K
     refine O (.q ids 0 g) J J (Aj J)<|O (.q ids 0 g) J J (Ae (Ai 0 0 0 Bd J As J))<|O (.ptr (ix ids 0) g 0 7) J J (Ae (Ai 0 7 7 As J Dm J))<|Cf J J (fun _ _=>J) (fun K hK=>Dc (y:=(0:Int)) (e:=(rI .i64)) (st:=1) (j:=2) hI J J J Cm Aq J J hl7.1 hl7.2.1 hl7.2.2 J J J J J fun v8 g8 vH7=>hK _ _ (Aa J (Ae (Ai 0 7 7 As J Dm J)) (Aa J (Ae (Ai 0 0 0 Bd J As J)) (Aa J (Aj J) (A7 J (Au J (Aa J Z (Aa J Z (Au J Ao)))))))) ?_)
     clear hK K
     refine Bo J (fun _ _=>J) (fun K hK=>A5 (Cs vH6 hI J J J J Dm J J J) (hK _ _ (A6 J (Aa J Z (A9 J Ao))) ?_))
     clear hK K
     refine O (.q ids 0 g) J J (Aj J)<|O (.q ids 0 g) J J (Ae (Ai 0 0 0 Bd J As J))<|O (.ptr (ix ids 0) g 0 8) J J (Ae (Ai 0 8 8 As J Cm J))<|Bo J (fun _ _=>J) (fun K hK=>A5 (Cs vH7 hI J J J J Cm J J J) (hK _ _ (A6 J (A7 J (A9 J Ao))) ?_))
     clear hK K
     refine Bh<|Ay ?_
     exact Bt (hJ ((List.replicate (Int.toNat n) false),(List.replicate (Int.toNat n) (0:Int))) _ _ ⟨v7,g7,v8,g8,vH6,vH7,J,J⟩)
    refine Ge<|Cb fun hl8=>Cb fun hl9=>O (.q ids 0 g) J J Z<|O (.q ids 0 g) J J Z<|O (.q ids 0 g) J J Z<|O (.I n) J J Z ?_
    refine O (.I n) J J Z<|O (.q ids 0 g) J J (Aj J)<|O (.q ids 0 g) J J (Ae (Ai 0 0 0 Bd J As J))<|O (.ptr (ix ids 0) g 0 5) J J (Ae (Ai 0 5 5 As J Aq J))<|Bo J (fun _ _=>J) (fun K hK=>A5 (A8 (v:=(.I 0)) hI J J J J Aq J J J J J) (hK _ _ (A9 J (Au J (Aa J Z (Aa J Z (Aa J Z (Aa J Z (Au J Ao))))))) ?_))
    clear hK K
    refine Cf J J (fun _ _=>J) (fun K hK=>Dc (y:=(false:Bool)) (e:=rB) (st:=1) (j:=1) hI J J J Dm Hf J J hl8.1 hl8.2.1 hl8.2.2 J J J J J fun v9 g9 vH8=>hK _ _ (A9 J (Au J (Aa J Z (Au J (Aa J Z (Aa J Z (Au J Ao))))))) ?_)
    clear hK K
    refine O (.q ids 0 g) J J (Aj J)<|O (.q ids 0 g) J J (Ae (Ai 0 0 0 Bd J As J))<|O (.ptr (ix ids 0) g 0 7) J J (Ae (Ai 0 7 7 As J Dm J))<|Cf J J (fun _ _=>J) (fun K hK=>Dc (y:=(0:Int)) (e:=(rI .i64)) (st:=1) (j:=2) hI J J J Cm Aq J J hl9.1 hl9.2.1 hl9.2.2 J J J J J fun v10 g10 vH9=>hK _ _ (Aa J (Ae (Ai 0 7 7 As J Dm J)) (Aa J (Ae (Ai 0 0 0 Bd J As J)) (Aa J (Aj J) (A7 J (Au J (Aa J Z (Aa J Z (Au J Ao)))))))) ?_)
    clear hK K
    refine Bo J (fun _ _=>J) (fun K hK=>A5 (Cs vH8 hI J J J J Dm J J J) (hK _ _ (A6 J (Aa J Z (A9 J Ao))) ?_))
    clear hK K
    refine O (.q ids 0 g) J J (Aj J)<|O (.q ids 0 g) J J (Ae (Ai 0 0 0 Bd J As J))<|O (.ptr (ix ids 0) g 0 8) J J (Ae (Ai 0 8 8 As J Cm J))<|Bo J (fun _ _=>J) (fun K hK=>A5 (Cs vH9 hI J J J J Cm J J J) (hK _ _ (A6 J (A7 J (A9 J Ao))) ?_))
    clear hK K
    refine Bh<|Ay ?_
    exact Bt (hJ ((List.replicate (Int.toNat n) false),(List.replicate (Int.toNat n) (0:Int))) _ _ ⟨v9,g9,v10,g10,vH8,vH9,J,J⟩)
   refine Ge<|Cb fun hl11=>Cb fun hl10=>O (.q ids 0 g) J J Z<|O (.q ids 0 g) J J Z<|O (.q ids 0 g) J J Z<|O (.I n) J J Z ?_
   refine O (.I n) J J Z<|O (.q ids 0 g) J J (Aj J)<|O (.q ids 0 g) J J (Ae (Ai 0 0 0 Bd J As J))<|O (.ptr (ix ids 0) g 0 5) J J (Ae (Ai 0 5 5 As J Aq J))<|Bo J (fun _ _=>J) (fun K hK=>A5 (A8 (v:=(.I 0)) hI J J J J Aq J J J J J) (hK _ _ (A9 J (Au J (Aa J Z (Aa J Z (Aa J Z (Aa J Z (Au J Ao))))))) ?_))
   clear hK K
   refine Cf J J (fun _ _=>J) (fun K hK=>Dc (y:=(0:Int)) (e:=(rI .i64)) (st:=1) (j:=2) hI J J J Cm Aq J J hl10.1 hl10.2.1 hl10.2.2 J J J J J fun v11 g11 vH10=>hK _ _ (A7 J (Aa J Z (Aa J Z (Aa J Z (Au J Ao))))) ?_)
   clear hK K
   refine Cf J J (fun _ _=>J) (fun K hK=>Dc (y:=(false:Bool)) (e:=rB) (st:=1) (j:=1) hI J J J Dm Hf J J hl11.1 hl11.2.1 hl11.2.2 J J J J J fun v12 g12 vH11=>hK _ _ (A7 J (Au J (Aa J Z (Aa J Z (Au J Ao))))) ?_)
   clear hK K
   refine O (.q ids 0 g) J J (Aj J)<|O (.q ids 0 g) J J (Ae (Ai 0 0 0 Bd J As J))<|O (.ptr (ix ids 0) g 0 7) J J (Ae (Ai 0 7 7 As J Dm J))<|Bo J (fun _ _=>J) (fun K hK=>A5 (Cs vH11 hI J J J J Dm J J J) (hK _ _ (A6 J (Aa J Z (A9 J Ao))) ?_))
   clear hK K
   refine O (.q ids 0 g) J J (Aj J)<|O (.q ids 0 g) J J (Ae (Ai 0 0 0 Bd J As J))<|O (.ptr (ix ids 0) g 0 8) J J (Ae (Ai 0 8 8 As J Cm J))<|Bo J (fun _ _=>J) (fun K hK=>A5 (Cs vH10 hI J J J J Cm J J J) (hK _ _ (A6 J (A7 J (A9 J Ao))) ?_))
   clear hK K
   refine Bh<|Ay ?_
   exact Bt (hJ ((List.replicate (Int.toNat n) false),(List.replicate (Int.toNat n) (0:Int))) _ _ ⟨v12,g12,v11,g11,vH11,vH10,J,J⟩)
  refine Ii ?_ ?_
  ·refine Ge<|Cb fun hl12=>Cb fun hl13=>O (.q ids 0 g) J J Z<|O (.q ids 0 g) J J Z<|O (.q ids 0 g) J J Z<|O (.I n) J J Z ?_
   refine O (.I n) J J Z<|O (.q ids 0 g) J J (Aj J)<|O (.q ids 0 g) J J (Ae (Ai 0 0 0 Bd J As J))<|O (.ptr (ix ids 0) g 0 5) J J (Ae (Ai 0 5 5 As J Aq J))<|Cf J J (fun _ _=>J) (fun K hK=>Dc (y:=(false:Bool)) (e:=rB) (st:=1) (j:=1) hI J J J Dm Hf J J hl12.1 hl12.2.1 hl12.2.2 J J J J J fun v13 g13 vH12=>hK _ _ (Aa J (Ae (Ai 0 5 5 As J Aq J)) (Aa J (Ae (Ai 0 0 0 Bd J As J)) (Aa J (Aj J) (Aa J Z (Au J (Aa J Z (Aa J Z (Aa J Z Ao)))))))) ?_)
   clear hK K
   refine Bo J (fun _ _=>J) (fun K hK=>A5 (A8 (v:=(.I 0)) hI J J J J Aq J J J J J) (hK _ _ (A9 J (Au J (Aa J Z (Au J (Aa J Z (Aa J Z (Au J Ao))))))) ?_))
   clear hK K
   refine O (.q ids 0 g) J J (Aj J)<|O (.q ids 0 g) J J (Ae (Ai 0 0 0 Bd J As J))<|O (.ptr (ix ids 0) g 0 7) J J (Ae (Ai 0 7 7 As J Dm J))<|Bo J (fun _ _=>J) (fun K hK=>A5 (Cs vH12 hI J J J J Dm J J J) (hK _ _ (A7 J (A9 J (Aa J Z (Au J (Aa J Z (A9 J Ao)))))) ?_))
   clear hK K
   refine Cf J J (fun _ _=>J) (fun K hK=>Dc (y:=(0:Int)) (e:=(rI .i64)) (st:=1) (j:=2) hI J J J Cm Aq J J hl13.1 hl13.2.1 hl13.2.2 J J J J J fun v14 g14 vH13=>hK _ _ (A6 J (Aa J Z (A9 J Ao))) ?_)
   clear hK K
   refine O (.q ids 0 g) J J (Aj J)<|O (.q ids 0 g) J J (Ae (Ai 0 0 0 Bd J As J))<|O (.ptr (ix ids 0) g 0 8) J J (Ae (Ai 0 8 8 As J Cm J))<|Bo J (fun _ _=>J) (fun K hK=>A5 (Cs vH13 hI J J J J Cm J J J) (hK _ _ (A6 J (A7 J (A9 J Ao))) ?_))
   clear hK K
   refine Bh<|Ay ?_
   exact Bt (hJ ((List.replicate (Int.toNat n) false),(List.replicate (Int.toNat n) (0:Int))) _ _ ⟨v13,g13,v14,g14,vH12,vH13,J,J⟩)
  refine Ge<|Cb fun hl14=>Cb fun hl15=>O (.q ids 0 g) J J Z<|O (.q ids 0 g) J J Z<|O (.q ids 0 g) J J Z<|O (.I n) J J Z ?_
  refine O (.I n) J J Z<|O (.q ids 0 g) J J (Aj J)<|O (.q ids 0 g) J J (Ae (Ai 0 0 0 Bd J As J))<|O (.ptr (ix ids 0) g 0 5) J J (Ae (Ai 0 5 5 As J Aq J))<|Bo J (fun _ _=>J) (fun K hK=>A5 (A8 (v:=(.I 0)) hI J J J J Aq J J J J J) (hK _ _ (A9 J (Au J (Aa J Z (Aa J Z (Aa J Z (Aa J Z (Au J Ao))))))) ?_))
  clear hK K
  refine Cf J J (fun _ _=>J) (fun K hK=>Dc (y:=(false:Bool)) (e:=rB) (st:=1) (j:=1) hI J J J Dm Hf J J hl14.1 hl14.2.1 hl14.2.2 J J J J J fun v15 g15 vH14=>hK _ _ (A9 J (Au J (Aa J Z (Au J (Aa J Z (Aa J Z (Au J Ao))))))) ?_)
  clear hK K
  refine O (.q ids 0 g) J J (Aj J)<|O (.q ids 0 g) J J (Ae (Ai 0 0 0 Bd J As J))<|O (.ptr (ix ids 0) g 0 7) J J (Ae (Ai 0 7 7 As J Dm J))<|Bo J (fun _ _=>J) (fun K hK=>A5 (Cs vH14 hI J J J J Dm J J J) (hK _ _ (A7 J (A9 J (Aa J Z (Au J (Aa J Z (A9 J Ao)))))) ?_))
  clear hK K
  refine Cf J J (fun _ _=>J) (fun K hK=>Dc (y:=(0:Int)) (e:=(rI .i64)) (st:=1) (j:=2) hI J J J Cm Aq J J hl15.1 hl15.2.1 hl15.2.2 J J J J J fun v16 g16 vH15=>hK _ _ (A6 J (Aa J Z (A9 J Ao))) ?_)
  clear hK K
  refine O (.q ids 0 g) J J (Aj J)<|O (.q ids 0 g) J J (Ae (Ai 0 0 0 Bd J As J))<|O (.ptr (ix ids 0) g 0 8) J J (Ae (Ai 0 8 8 As J Cm J))<|Bo J (fun _ _=>J) (fun K hK=>A5 (Cs vH15 hI J J J J Cm J J J) (hK _ _ (A6 J (A7 J (A9 J Ao))) ?_))
  clear hK K
  refine Bh<|Ay ?_
  exact Bt (hJ ((List.replicate (Int.toNat n) false),(List.replicate (Int.toNat n) (0:Int))) _ _ ⟨v15,g15,v16,g16,vH14,vH15,J,J⟩)
 refine Cn J (fun hc=>?_) (fun hc=>?_)
 ·refine Y<|Al 6 [0] [(2,(.I s_Replica.Many))] ?_
  refine Ad<|Bt (hJ1 s_Replica.Many _ _ ⟨J,J⟩)
 refine Bl<|Bt (hJ1 0 _ _ ⟨J,J⟩)
theorem Nt (s:T87):CP Try.prog 59 [(.cp (W0 s) 0)] (I1 s) (fun(x:Int)=>(AV.int .i64 x)):=by
 refine Db (n:=25) 0 Try.func59 J (by decide) J J fun h0 ids hI=>B4 (Ax (I1.eq_1 _) ?_)
 refine Ab<|Y<|Ac (.I 0) J Ap<|Ad<|Ab<|Ab<|Y ?_
 refine Al 5 [] [(7,(.sl 2 (List.map Ak s.Replica.Log)))] ?_
 refine Ac (.I (s.Replica.Log.length:Int)) J (By (B5 Bu))<|Ac (.bool ((s.Replica.Log.length:Int)==0)) J (Bk J J J)<|Ad<|Cn J (fun hc=>?_) (fun hc=>?_)
 ·refine Ab<|Y<|Ac (.I 0) J Ap<|Ad<|Ca (a:=0) (vs:=[(.I 0)]) Try.func59 hI J (.same _)
 refine Bl<|Ab<|B2 Da [[],[0],[0,1],[0,1,2],[0,1,2,3],[],[5],[5,6],[5,6,7],[5,6,7,8],[5,6,7,8,9],[5,6,7,8,9,10],[0,1,2,3,4,5,6,7,8,9,10,11],[0,1,2,3,4,5,6,7,8,9,10,11,12],[0,1,2,3,4,5,6,7,8,9,10,11,12,13],[0,1,2,3,4,5,6,7,8,9,10,11,12,13,14,14]] [(false,0),(false,1),(false,2),(false,3),(false,4),(false,5),(false,6),(false,7),(false,8),(false,9),(false,10),(false,11),(false,12),(false,13),(false,14),(false,15)] (by kernel_rfl)<|O (.cp (W0 s) 0) J J Z<|O (.cp (W0 s) 0) J J (Aj J)<|O (.cp (W0 s) 0) J J (Ae (F3 (c:=0) (off:=0) (i:=0) Bd J As J))<|O (.cp (W0 s) 4) J J (Ae (F3 (c:=0) (off:=4) (i:=4) As J Bu J)) ?_
 refine O (.sl 2 (List.map Ak s.Replica.Log)) J J (Af (Dd Bu J))<|O (.cp (W0 s) 0) J J Z<|O (.cp (W0 s) 0) J J (Aj J)<|O (.cp (W0 s) 0) J J (Ae (F3 (c:=0) (off:=0) (i:=0) Bd J As J))<|O (.cp (W0 s) 4) J J (Ae (F3 (c:=0) (off:=4) (i:=4) As J Bu J))<|O (.sl 2 (List.map Ak s.Replica.Log)) J J (Af (Dd Bu J))<|O (.I (s.Replica.Log.length:Int)) J J (By (B5 Bu)) ?_
 refine O (.I (IntKind.wrap .i64 ((s.Replica.Log.length:Int) - 1))) J J (Bk J J J)<|Gq fun a hz hx1=>O (.cp (Ak a) 0) J J (Bq (Ik Bu Ds J hz hx1))<|O (.cp (Ak a) 0) J J (Ae (F3 (c:=0) (off:=0) (i:=0) Ds J Aq J))<|O (.I a.Term) J J (Af (Dd Aq J))<|O (.I a.Term) J J Ap<|Bh ?_
 exact Ca (a:=a.Term) (vs:=[(.I a.Term)]) Try.func59 hI J (.same _)
theorem Qa (vto:Int)(mKind:Int)(mFrom:Int)(mTo:Int)(mTerm:Int)(mLast:Int)(mLastTerm:Int)(mCommit:Int)(mMatch:Int)(mGranted:Bool)(s_Replica:Replica)(h0:Ag)(o0:Nat)(o1:Nat)(g:Nat)(hI0:Ids h0 [o0,o1] 2):Hw vto mKind mFrom mTo mTerm mLast mLastTerm mCommit mMatch mGranted s_Replica≠.bad→Bw Try.prog 69 [(.ptr o0 g 0 0),(.int .i64 vto),(.agg [(.int .i64 mKind),(.int .i64 mFrom),(.int .i64 mTo),(.int .i64 mTerm),(.int .i64 mLast),(.int .i64 mLastTerm),.emp,(.int .i64 mCommit),(.int .i64 mMatch),(.bool mGranted)])] (hp h0 [o0,o1] [some (.rows g 10 [[(.int .i64 s_Replica.ID),(.int .i64 s_Replica.Many),(.int .i64 s_Replica.Term),(.int .i64 s_Replica.Vote),(.sl 2 (List.map Ak s_Replica.Log)),(.int .i64 s_Replica.Role),(.int .i64 s_Replica.Commit),(.sl 1 (List.map rB s_Replica.Votes)),(.sl 1 (List.map (rI .i64) s_Replica.Match)),.emp]]),none]) (Ec (fun a_ v h' => ∃ (v2:AV),∃ (g3:Nat),Bs v2 o1 g3 a_.length∧v=(.tup [])∧h'=hp h0 [o0,o1] [some (.rows g 10 [[(.int .i64 s_Replica.ID),(.int .i64 s_Replica.Many),(.int .i64 s_Replica.Term),(.int .i64 s_Replica.Vote),(.sl 2 (List.map Ak s_Replica.Log)),(.int .i64 s_Replica.Role),(.int .i64 s_Replica.Commit),(.sl 1 (List.map rB s_Replica.Votes)),(.sl 1 (List.map (rI .i64) s_Replica.Match)),v2]]),Ba v2 g3 10 (List.map An a_)]) h0 (Hw vto mKind mFrom mTo mTerm mLast mLastTerm mCommit mMatch mGranted s_Replica)):=by
 refine Cp (n:=30) 1 Try.func69 J (by decide) J J hI0 J fun ids he hI=>?_
 clear hI0
 obtain rfl:ix ids 0=o0:=he 0 rfl
 obtain rfl:ix ids 1=o1:=he 1 rfl
 clear he
 refine B4 (Ax (Hw.eq_1 _ _ _ _ _ _ _ _ _ _ _) ?_)
 refine Ay ?_
 refine Ab<|Y<|Dg (v:=(.agg [(.I mKind),(.I mFrom),(.I mTo),(.I mTerm),(.I mLast),(.I mLastTerm),.emp,(.I mCommit),(.I mMatch),(.bool mGranted)])) (j:=2) hI J J J J J J J fun g1=>Ad<|Ay ?_
 refine Ab<|B2 Da [[],[0],[0,1],[0,1,2],[0,1,2,3],[],[],[6],[6,7],[6,7,8],[6,7,8,9],[0,1,2,3,4],[0,1,2,3,4,4,11],[0,1,2,3,4,5,11,12],[0,1,2,3,4,5,5,11,12,12,13],[0,1,2,3,4,5,6,7,8,9,10,11,12,13,14],[0,1,2,3,4,5,6,7,8,9,10,10,11,12,13,14,14,15]] [(false,0),(false,1),(false,2),(false,3),(false,4),(false,5),(false,6),(false,7),(false,8),(false,9),(false,10),(false,11),(true,12),(false,13),(true,14),(false,15),(true,16)] (by kernel_rfl)<|O (.q ids 0 g) J J Z<|O (.q ids 0 g) J J (Aj J)<|O (.q ids 0 g) J J (Ae (Ai 0 0 0 Bd J As J))<|O (.q ids 0 g) J J (Ae (Ai 0 0 0 As J Aq J))<|O (.I s_Replica.ID) J J (Af (Ah hI J J J Aq J)) ?_
 refine O (.I vto) J J Z<|O (.q ids 0 g) J J Z<|O (.q ids 0 g) J J (Aj J)<|O (.q ids 0 g) J J (Ae (Ai 0 0 0 Bd J As J))<|O (.ptr (ix ids 0) g 0 2) J J (Ae (Ai 0 2 2 As J Aq J))<|O (.I s_Replica.Term) J J (Af (Ah hI J J J Aq J))<|O (.ptr (ix ids 2) g1 0 1) J J (Ae (Ai 0 1 1 Bf J Aq J)) ?_
 refine Bo J (fun _ _=>J) (fun K hK=>A5 (A8 (v:=(.I s_Replica.ID)) hI J J J J Aq J J J J J) (hK _ _ (Au J (Aa J (Af (Ah hI J J J Aq J)) (Aa J (Ae (Ai 0 2 2 As J Aq J)) (Aa J (Ae (Ai 0 0 0 Bd J As J)) (Aa J (Aj J) (Aa J Z (Aa J Z (A7 J (Au J Ao))))))))) ?_))
 clear hK K
 refine O (.ptr (ix ids 2) g1 0 2) J J (Ae (Ai 0 2 2 Bf J Aq J))<|Bo J (fun _ _=>J) (fun K hK=>A5 (A8 (v:=(.I vto)) hI J J J J Aq J J J J J) (hK _ _ (A9 J (Aa J (Af (Ah hI J J J Aq J)) (Aa J (Ae (Ai 0 2 2 As J Aq J)) (Aa J (Ae (Ai 0 0 0 Bd J As J)) (Aa J (Aj J) (Aa J Z (A7 J (A9 J Ao)))))))) ?_))
 clear hK K
 refine O (.ptr (ix ids 2) g1 0 3) J J (Ae (Ai 0 3 3 Bf J Aq J))<|Bo J (fun _ _=>J) (fun K hK=>A5 (A8 (v:=(.I s_Replica.Term)) hI J J J J Aq J J J J J) (hK _ _ (A6 J (A7 J (A9 J Ao))) ?_))
 clear hK K
 refine Bh<|Ay ?_
 refine B2 Da [[],[],[1],[1,2],[1,2,3],[],[5],[1,2,3,4,5,6],[0,0,1,2,3,4,5,6,7],[0,1,2,3,4,5,6,7,8],[0,1,2,3,4,5,6,7,8,9]] [(false,0),(false,1),(false,2),(false,3),(false,4),(false,5),(true,6),(true,7),(false,8),(false,9),(true,10)] (by kernel_rfl)<|O (.q ids 0 g) J J Z<|O (.q ids 0 g) J J Z<|O (.q ids 0 g) J J (Aj J)<|O (.ptr (ix ids 0) g 0 9) J J (Ae (Ai 0 9 1 Bd J C7 J))<|O .emp J J (Af (Ah hI J J J C7 J))<|O (.agg [(.I mKind),(.I s_Replica.ID),(.I vto),(.I s_Replica.Term),(.I mLast),(.I mLastTerm),.emp,(.I mCommit),(.I mMatch),(.bool mGranted)]) J J (Af (Ah hI J J J Bf J)) ?_
 refine Cf J J (fun _ _=>J) (fun K hK=>Gv (e:=An) (L:=[({ Kind:=mKind,From:=s_Replica.ID,To:=vto,Term:=s_Replica.Term,Last:=mLast,LastTerm:=mLastTerm,Log:=[],Commit:=mCommit,Match:=mMatch,Granted:=mGranted }:Message)]) (st:=10) (rows:=[[(.I mKind),(.I s_Replica.ID),(.I vto),(.I s_Replica.Term),(.I mLast),(.I mLastTerm),.emp,(.I mCommit),(.I mMatch),(.bool mGranted)]]) C7 Bf J J J J J (.cons (.cons (.same _) (.cons (.same _) (.cons (.same _) (.cons (.same _) (.cons (.same _) (.cons (.same _) (.cons (.emp _) (.cons (.same _) (.cons (.same _) (.cons (.same _) .nil)))))))))) .nil) (fun x=>Iw x) J J (hK _ _ (Au J (Aa J (Af (Ah hI J J J C7 J)) (Aa J (Ae (Ai 0 9 1 Bd J C7 J)) (Aa J (Aj J) (Aa J Z (Aa J Z Ao)))))) ?_))
 clear hK K
 refine Cb fun hl=>Cf J J (fun _ _=>J) (fun K hK=>D8 (e:=An) (L:=([]:List Message)) (L2:=[({ Kind:=mKind,From:=s_Replica.ID,To:=vto,Term:=s_Replica.Term,Last:=mLast,LastTerm:=mLastTerm,Log:=[],Commit:=mCommit,Match:=mMatch,Granted:=mGranted }:Message)]) (v:=.emp) (g:=0) (st:=10) (j:=1) hI J J J .nil J (Fr J) C7 C7 J Bf J J J (by simpa using hl) fun v1 g2 vH=>hK _ _ (A7 J (Au J (Aa J Z Ao))) ?_)
 clear hK K
 refine O (.q ids 0 g) J J (Aj J)<|O (.ptr (ix ids 0) g 0 9) J J (Ae (Ai 0 9 1 Bd J C7 J))<|Bo J (fun _ _=>J) (fun K hK=>A5 (Cs vH hI J J J J C7 J J J) (hK _ _ (A6 J Ao) ?_))
 clear hK K
 refine Bh<|Ay ?_
 exact Fm (K:=2) (N:=1) (a:=[({ Kind:=mKind,From:=s_Replica.ID,To:=vto,Term:=s_Replica.Term,Last:=mLast,LastTerm:=mLastTerm,Log:=[],Commit:=mCommit,Match:=mMatch,Granted:=mGranted }:Message)]) (vs:=[]) [some (.rows g 10 [[(.I s_Replica.ID),(.I s_Replica.Many),(.I s_Replica.Term),(.I s_Replica.Vote),(.sl 2 (List.map Ak s_Replica.Log)),(.I s_Replica.Role),(.I s_Replica.Commit),(.sl 1 (List.map rB s_Replica.Votes)),(.sl 1 (List.map (rI .i64) s_Replica.Match)),v1]]),Ba v1 g2 10 (List.map An [({ Kind:=mKind,From:=s_Replica.ID,To:=vto,Term:=s_Replica.Term,Last:=mLast,LastTerm:=mLastTerm,Log:=[],Commit:=mCommit,Match:=mMatch,Granted:=mGranted }:Message)])] Try.func69 hI J J J (.keep (.keep (.drop .nil))) (.same _) ⟨v1,g2,vH,J,J⟩
theorem Vr (m:Message)(s_Replica:Replica)(h0:Ag)(o0:Nat)(o1:Nat)(g:Nat)(hI0:Ids h0 [o0,o1] 2):Jz m s_Replica≠.bad→Bw Try.prog 48 [(.ptr o0 g 0 0),(.agg (An m))] (hp h0 [o0,o1] [some (.rows g 10 [[(.int .i64 s_Replica.ID),(.int .i64 s_Replica.Many),(.int .i64 s_Replica.Term),(.int .i64 s_Replica.Vote),(.sl 2 (List.map Ak s_Replica.Log)),(.int .i64 s_Replica.Role),(.int .i64 s_Replica.Commit),(.sl 1 (List.map rB s_Replica.Votes)),(.sl 1 (List.map (rI .i64) s_Replica.Match)),.emp]]),none]) (Ec (fun a_ v h' => ∃ (v2:AV),∃ (g3:Nat),Bs v2 o1 g3 a_.2.length∧v=(.tup [])∧h'=hp h0 [o0,o1] [some (.rows g 10 [[(.int .i64 a_.1.ID),(.int .i64 a_.1.Many),(.int .i64 a_.1.Term),(.int .i64 a_.1.Vote),(.sl 2 (List.map Ak a_.1.Log)),(.int .i64 a_.1.Role),(.int .i64 a_.1.Commit),(.sl 1 (List.map rB a_.1.Votes)),(.sl 1 (List.map (rI .i64) a_.1.Match)),v2]]),Ba v2 g3 10 (List.map An a_.2)]) h0 (Jz m s_Replica)):=by
 refine Cp (n:=71) 1 Try.func48 J (by decide) J J hI0 J fun ids he hI=>?_
 clear hI0
 obtain rfl:ix ids 0=o0:=he 0 rfl
 obtain rfl:ix ids 1=o1:=he 1 rfl
 clear he
 refine B4 (Ax (Jz.eq_1 _ _) ?_)
 refine Ay ?_
 refine Ab<|Y<|Dg (v:=(.agg (An m))) (j:=2) hI J J J J J J J fun g1=>Ad<|Ay ?_
 refine Ab<|D4 (fun good=>Im m s_Replica good) (fun good=>fun(fr:Nat→AV) (h:Ag)=>fr=A0 [(0,(.q ids 0 g)),(3,(.q ids 2 g1)),(4,(.bool good))]∧h=hp h0 ids [(some (.rows g 10 [[(.I s_Replica.ID),(.I s_Replica.Many),(.I s_Replica.Term),(.I s_Replica.Vote),(.sl 2 (List.map Ak s_Replica.Log)),(.I s_Replica.Role),(.I s_Replica.Commit),(.sl 1 (List.map rB s_Replica.Votes)),(.sl 1 (List.map (rI .i64) s_Replica.Match)),.emp]])),none,(some (.rows g1 10 [(An m)]))]) ?_ fun hJ2=>?_
 ·rintro good fr h ⟨rfl,rfl⟩
  refine Ax (Im.eq_1 _ _ _)<|Ab<|D4 (fun granted=>Hb m s_Replica granted) (fun granted=>fun(fr:Nat→AV) (h:Ag)=>fr=A0 [(0,(.q ids 0 g)),(3,(.q ids 2 g1)),(5,(.bool granted))]∧h=hp h0 ids [(some (.rows g 10 [[(.I s_Replica.ID),(.I s_Replica.Many),(.I s_Replica.Term),(.I s_Replica.Vote),(.sl 2 (List.map Ak s_Replica.Log)),(.I s_Replica.Role),(.I s_Replica.Commit),(.sl 1 (List.map rB s_Replica.Votes)),(.sl 1 (List.map (rI .i64) s_Replica.Match)),.emp]])),none,(some (.rows g1 10 [(An m)]))]) ?_ fun hJ1=>?_
  ·rintro granted fr h ⟨rfl,rfl⟩
   refine Ax (Hb.eq_1 _ _ _)<|Ab<|Ab<|Y<|Ac (.bool granted) J Z<|Ad<|D4 (fun vReplica=>Ka m granted vReplica) (fun vReplica=>fun(fr:Nat→AV) (h:Ag)=>fr=A0 [(0,(.q ids 0 g)),(3,(.q ids 2 g1)),(5,(.bool granted))]∧h=hp h0 ids [(some (.rows g 10 [[(.I vReplica.ID),(.I vReplica.Many),(.I vReplica.Term),(.I vReplica.Vote),(.sl 2 (List.map Ak vReplica.Log)),(.I vReplica.Role),(.I vReplica.Commit),(.sl 1 (List.map rB vReplica.Votes)),(.sl 1 (List.map (rI .i64) vReplica.Match)),.emp]])),none,(some (.rows g1 10 [(An m)]))]) ?_ fun hJ=>?_
   ·rintro vReplica fr h ⟨rfl,rfl⟩
    refine Ax (Ka.eq_1 _ _ _)<|Y<|Al 5 [2] [(69,(.agg [(.I 2),(.I 0),(.I 0),(.I 0),(.I 0),(.I 0),.emp,(.I 0),(.I 0),(.bool granted)])),(67,(.I m.From)),(65,(.q ids 0 g))] ?_
    refine Cg [0,1] hI J J (Qa m.From 2 0 0 0 0 0 0 0 granted vReplica _ (ix ids 0) (ix ids 1) g (by exact hI.sub' J J)) J J J J J J (fun v _=>B8 (K:=2) (N:=1) Try.func48 hI) ?_
    rintro r2 _ _ _ ⟨v1,g2,vH,rfl,rfl⟩
    refine Dr [0,1] hI J J J ?_
    refine Cw<|Ad<|Ay ?_
    exact Fm (K:=2) (N:=1) (a:=(vReplica,r2)) (vs:=[]) [some (.rows g 10 [[(.I vReplica.ID),(.I vReplica.Many),(.I vReplica.Term),(.I vReplica.Vote),(.sl 2 (List.map Ak vReplica.Log)),(.I vReplica.Role),(.I vReplica.Commit),(.sl 1 (List.map rB vReplica.Votes)),(.sl 1 (List.map (rI .i64) vReplica.Match)),v1]]),Ba v1 g2 10 (List.map An r2)] Try.func48 hI J J J (.keep (.keep (.drop .nil))) (.same _) ⟨v1,g2,vH,J,J⟩
   refine Cn J (fun hc=>?_) (fun hc=>?_)
   ·refine Y<|Al 6 [2] [(64,(.ptr (ix ids 0) g 0 3)),(61,(.I m.From))] ?_
    refine Bc (A8 (v:=(.I m.From)) hI J J J J Aq J J J J J)<|Ad<|Ay ?_
    exact Bt (hJ ({ ID:=s_Replica.ID,Many:=s_Replica.Many,Term:=s_Replica.Term,Vote:=m.From,Log:=s_Replica.Log,Role:=s_Replica.Role,Commit:=s_Replica.Commit,Votes:=s_Replica.Votes,Match:=s_Replica.Match }:Replica) _ _ ⟨J,J⟩)
   refine Bl<|Bt (hJ s_Replica _ _ ⟨J,J⟩)
  refine B2 Da [[],[0],[],[2],[2,3],[2,3,4],[2,3,4,5],[0,1,2,3,4,5,6],[0,1,2,3,4,5,6,7],[0,1,2,3,4,5,6,7,8],[0,1,2,3,4,5,6,7,8,9],[0,1,2,3,4,5,6,7,8,9,10],[0,1,2,3,4,5,6,7,8,9,10,11],[0,1,2,3,4,5,6,7,8,9,10,11,12],[0,1,2,3,4,5,6,7,8,9,10,11,12,13],[0,1,2,3,4,5,6,7,8,9,10,11,12,13,14],[0,1,2,3,4,5,6,7,8,9,10,11,12,13,14,15],[0,1,2,3,4,5,6,7,8,9,10,11,12,13,14,15,16],[0,1,2,3,4,5,6,7,8,9,10,11,12,13,14,15,16,17],[0,1,2,3,4,5,6,7,8,9,10,11,12,13,14,15,16,17,18],[0,1,2,3,4,5,6,7,8,9,10,11,12,13,14,15,16,17,18,19],[0,1,2,3,4,5,6,7,8,9,10,11,12,13,14,15],[0,1,2,3,4,5,6,7,8,9,10,11,12,13,14,15,21],[0,1,2,3,4,5,6,7,8,9,10,11,12,13,14,15,16,17,18,19,20,21,22],[0,1,2,3,4,5,6,7,8,9,10,11,12,13,14,15,16,17,18,19,20,21,22,23],[0,1,2,3,4,5,6,7,8,9,10,11,12,13,14,15,16,17,18,19,20,21,22,23,24],[0,1,2,3,4,5,6,7,8,9,10,11,12,13,14,15,16,17,18,19,20,21,22,23,24,25],[0,1,2,3,4,5,6,7,8,9,10,11,12,13,14,15,16,17,18,19,20,21,22,23,24,25,26],[0,1,2,3,4,5,6,7,8,9,10,11,12,13,14,15,16,17,18,19,20,21,22,23,24,25,26,27],[0,1,2,3,4,5,6,7,8,9,10,11,12,13,14,15,16,17,18,19,20,21,22,23,24,25,26,26,27,28,28]] [(false,0),(false,1),(false,2),(false,3),(false,4),(false,5),(false,6),(false,7),(false,8),(false,9),(false,10),(false,11),(false,12),(false,13),(false,14),(false,15),(false,16),(false,17),(false,18),(false,19),(false,20),(false,21),(false,22),(false,23),(false,24),(false,25),(false,26),(false,27),(false,28),(false,29)] (by kernel_rfl)<|O (.ptr (ix ids 2) g1 0 3) J J (Ae (Ai 0 3 3 Bf J Aq J))<|O (.I m.Term) J J (Af (Ah hI J J J Aq J))<|O (.q ids 0 g) J J Z<|O (.q ids 0 g) J J (Aj J)<|O (.q ids 0 g) J J (Ae (Ai 0 0 0 Bd J As J))<|O (.ptr (ix ids 0) g 0 2) J J (Ae (Ai 0 2 2 As J Aq J)) ?_
  refine O (.I s_Replica.Term) J J (Af (Ah hI J J J Aq J))<|O (.bool (m.Term==s_Replica.Term)) J J (Bk J J J)<|O (.bool (m.Term==s_Replica.Term)) J J Z<|Hk (fun hb2=>?_) (fun hb2=>?_)
  ·refine Az (tj:=37) (.q ids 0 g) J J (congrArg AV.bool hb2) J Z<|Az (tj:=37) (.q ids 0 g) J J (congrArg AV.bool hb2) J (Aj J)<|Az (tj:=37) (.q ids 0 g) J J (congrArg AV.bool hb2) J (Ae (Ai 0 0 0 Bd J As J))<|Az (tj:=37) (.ptr (ix ids 0) g 0 3) J J (congrArg AV.bool hb2) J (Ae (Ai 0 3 3 As J Aq J))<|Az (tj:=37) (.I s_Replica.Vote) J J (congrArg AV.bool hb2) J (Af (Ah hI J J J Aq J))<|Az (tj:=37) (.bool (s_Replica.Vote==(-1))) J J (congrArg AV.bool hb2) J (Bk J J J)<|Az (tj:=37) (.bool (s_Replica.Vote==(-1))) J J (congrArg AV.bool hb2) J Z ?_
   refine Hk (fun hb3=>?_) (fun hb3=>?_)
   ·refine A4 (tj:=44) (b:=true) J J (congrArg AV.bool hb3) J J<|A4 (tj:=44) (b:=true) J J (congrArg AV.bool hb3) J J<|A4 (tj:=44) (b:=true) J J (congrArg AV.bool hb3) J J<|A4 (tj:=44) (b:=true) J J (congrArg AV.bool hb3) J J<|A4 (tj:=44) (b:=true) J J (congrArg AV.bool hb3) J J<|A4 (tj:=44) (b:=true) J J (congrArg AV.bool hb3) J J<|A4 (tj:=44) (b:=true) J J (congrArg AV.bool hb3) J J ?_
    refine A4 (tj:=44) (b:=true) J J (congrArg AV.bool hb3) J J<|Az (tj:=37) (.bool true) J J (congrArg AV.bool hb2) J (B9 (t:=true) (congrArg AV.bool hb3) J)<|O (.bool true) J J (B9 (t:=true) (congrArg AV.bool hb2) J)<|O (.bool true) J J Z<|Az (tj:=55) (.bool good) J J J J Z<|O (.bool good) J J (B9 (t:=true) J J)<|O (.bool good) J J Ap ?_
    refine Bh<|Bt (hJ1 good _ _ ⟨J,J⟩)
   refine Az (tj:=44) (.q ids 0 g) J J (congrArg AV.bool hb3) J Z<|Az (tj:=44) (.q ids 0 g) J J (congrArg AV.bool hb3) J (Aj J)<|Az (tj:=44) (.q ids 0 g) J J (congrArg AV.bool hb3) J (Ae (Ai 0 0 0 Bd J As J))<|Az (tj:=44) (.ptr (ix ids 0) g 0 3) J J (congrArg AV.bool hb3) J (Ae (Ai 0 3 3 As J Aq J))<|Az (tj:=44) (.I s_Replica.Vote) J J (congrArg AV.bool hb3) J (Af (Ah hI J J J Aq J))<|Az (tj:=44) (.ptr (ix ids 2) g1 0 1) J J (congrArg AV.bool hb3) J (Ae (Ai 0 1 1 Bf J Aq J))<|Az (tj:=44) (.I m.From) J J (congrArg AV.bool hb3) J (Af (Ah hI J J J Aq J)) ?_
   refine Az (tj:=44) (.bool (s_Replica.Vote==m.From)) J J (congrArg AV.bool hb3) J (Bk J J J)<|Az (tj:=37) (.bool (s_Replica.Vote==m.From)) J J (congrArg AV.bool hb2) J (B9 (t:=false) (congrArg AV.bool hb3) J)<|O (.bool (s_Replica.Vote==m.From)) J J (B9 (t:=true) (congrArg AV.bool hb2) J)<|O (.bool (s_Replica.Vote==m.From)) J J Z<|Hk (fun hb4=>?_) (fun hb4=>?_)
   ·refine Az (tj:=55) (.bool good) J J (congrArg AV.bool hb4) J Z<|O (.bool good) J J (B9 (t:=true) (congrArg AV.bool hb4) J)<|O (.bool good) J J Ap<|Bh<|Bt (hJ1 good _ _ ⟨J,J⟩)
   refine A4 (tj:=55) (b:=false) J J (congrArg AV.bool hb4) J J<|O (.bool false) J J (B9 (t:=false) (congrArg AV.bool hb4) J)<|O (.bool false) J J Ap<|Bh<|Bt (hJ1 false _ _ ⟨J,J⟩)
  refine A4 (tj:=37) (b:=false) J J (congrArg AV.bool hb2) J J<|A4 (tj:=37) (b:=false) J J (congrArg AV.bool hb2) J J<|A4 (tj:=37) (b:=false) J J (congrArg AV.bool hb2) J J<|A4 (tj:=37) (b:=false) J J (congrArg AV.bool hb2) J J<|A4 (tj:=37) (b:=false) J J (congrArg AV.bool hb2) J J<|A4 (tj:=37) (b:=false) J J (congrArg AV.bool hb2) J J<|A4 (tj:=37) (b:=false) J J (congrArg AV.bool hb2) J J ?_
  refine Fk (tj:=44) J J J J<|Fk (tj:=44) J J J J<|Fk (tj:=44) J J J J<|Fk (tj:=44) J J J J<|Fk (tj:=44) J J J J<|Fk (tj:=44) J J J J<|Fk (tj:=44) J J J J ?_
  refine Fk (tj:=44) J J J J<|A4 (tj:=37) (b:=false) J J (congrArg AV.bool hb2) J J<|O (.bool false) J J (B9 (t:=false) (congrArg AV.bool hb2) J)<|O (.bool false) J J Z<|A4 (tj:=55) (b:=false) J J J J J<|O (.bool false) J J (B9 (t:=false) J J)<|O (.bool false) J J Ap ?_
  refine Bh<|Bt (hJ1 false _ _ ⟨J,J⟩)
 refine B2 Da [[],[0],[],[2],[0,1,2,3],[0,1,2,3,4],[0,1,2,3,4,5],[0,1,2,3,4,5,6],[0,1,2,3,4,5],[0,1,2,3,4,5,8],[0,1,2,3,4,5,6,7,8,9],[0,1,2,3,4,5,6,7,8,9,10],[0,1,2,3,4,5,6,7,8,9,10,11],[0,1,2,3,4,5,6,7,8,9,10,11,12],[0,1,2,3,4,5,6,7,8,9,10,11],[0,1,2,3,4,5,6,7,8,9,10,11,14],[0,1,2,3,4,5,6,7,8,9,10,11,14,15],[0,1,2,3,4,5,6,7,8,9,10,11,14,15,16],[0,1,2,3,4,5,6,7,8,9,10,11,14,15,16,17],[0,1,2,3,4,5,6,7,8,9,10,11,14,15,16,17,18],[0,1,2,3,4,5,6,7,8,9,10,11,12,13,14,15,16,17,18,19],[0,1,2,3,4,5,6,7,8,9,10,11,12,13,14,15,16,17,18,19,20],[0,1,2,3,4,5,6,7,8,9,10,11,12,13,14,15,16,17,18,19,20,21],[0,1,2,3,4,5,6,7,8,9,10,11,11,12,13,14,15,16,17,18,19,20,21,22,22]] [(false,0),(false,1),(false,2),(true,3),(false,4),(false,5),(false,6),(false,7),(false,8),(true,9),(false,10),(false,11),(false,12),(false,13),(false,14),(false,15),(false,16),(false,17),(false,18),(false,19),(false,20),(false,21),(false,22),(false,23)] (by kernel_rfl)<|O (.ptr (ix ids 2) g1 0 5) J J (Ae (Ai 0 5 5 Bf J Aq J))<|O (.I m.LastTerm) J J (Af (Ah hI J J J Aq J))<|O (.q ids 0 g) J J Z<|Dx [(.q ids 0 g)] J J J J J (CP.lend (Nt ({ Replica:=s_Replica,fSent:=[] }:T87)) (LF.lfz (.cons (.ptrL (hI.at J J) J J (.cons (.same _) (.cons (.same _) (.cons (.same _) (.cons (.same _) (.cons (.same _) (.cons (.same _) (.cons (.same _) (.cons (.same _) (.cons (.same _) (.cons (.emp _) .nil))))))))))) .nil)) (fun _ _=>(.int _ _))) (fun v _ _ _=>B8 (K:=2) (N:=1) Try.func48 hI) (Au J (Aa J (Af (Ah hI J J J Aq J)) (Aa J (Ae (Ai 0 5 5 Bf J Aq J)) Ao))) fun r _=>O (.bool (decide (m.LastTerm > r))) J J (Bk J J J)<|O (.bool (decide (m.LastTerm > r))) J J Z ?_
 refine Hk (fun hb=>?_) (fun hb=>?_)
 ·refine A4 (tj:=11) (b:=true) J J (congrArg AV.bool hb) J J<|A4 (tj:=11) (b:=true) J J (congrArg AV.bool hb) J J<|A4 (tj:=11) (b:=true) J J (congrArg AV.bool hb) J J<|T5 (tj:=11) (b:=true) J J (congrArg AV.bool hb) J J<|A4 (tj:=11) (b:=true) J J (congrArg AV.bool hb) J J<|A4 (tj:=11) (b:=true) J J (congrArg AV.bool hb) J J<|Fk (tj:=17) J J J J ?_
  refine Fk (tj:=17) J J J J<|Fk (tj:=17) J J J J<|Fk (tj:=17) J J J J<|Fk (tj:=17) J J J J<|Fk (tj:=17) J J J J<|Fk (tj:=17) J J J J<|Fk (tj:=17) J J J J ?_
  refine Fk (tj:=17) J J J J<|A4 (tj:=11) (b:=true) J J (congrArg AV.bool hb) J J<|O (.bool true) J J (B9 (t:=true) (congrArg AV.bool hb) J)<|O (.bool true) J J Ap<|Bh<|Bt (hJ2 true _ _ ⟨J,J⟩)
 refine Az (tj:=11) (.ptr (ix ids 2) g1 0 5) J J (congrArg AV.bool hb) J (Ae (Ai 0 5 5 Bf J Aq J))<|Az (tj:=11) (.I m.LastTerm) J J (congrArg AV.bool hb) J (Af (Ah hI J J J Aq J))<|Az (tj:=11) (.q ids 0 g) J J (congrArg AV.bool hb) J Z<|Dx [(.q ids 0 g)] J (Ej (tj:=11) J (congrArg AV.bool hb)) J J J (CP.lend (Nt ({ Replica:=s_Replica,fSent:=[] }:T87)) (LF.lfz (.cons (.ptrL (hI.at J J) J J (.cons (.same _) (.cons (.same _) (.cons (.same _) (.cons (.same _) (.cons (.same _) (.cons (.same _) (.cons (.same _) (.cons (.same _) (.cons (.same _) (.cons (.emp _) .nil))))))))))) .nil)) (fun _ _=>(.int _ _))) (fun v _ _ _=>B8 (K:=2) (N:=1) Try.func48 hI) (Au J (Xh (tj:=11) J J (congrArg AV.bool hb) (Af (Ah hI J J J Aq J)) (Xh (tj:=11) J J (congrArg AV.bool hb) (Ae (Ai 0 5 5 Bf J Aq J)) (A7 J (Au J Ao))))) fun r1 _=>Az (tj:=11) (.bool (m.LastTerm==r1)) J J (congrArg AV.bool hb) J (Bk J J J)<|Az (tj:=11) (.bool (m.LastTerm==r1)) J J (congrArg AV.bool hb) J Z<|Hk (fun hb1=>?_) (fun hb1=>?_)
 ·refine Az (tj:=17) (.ptr (ix ids 2) g1 0 4) J J (congrArg AV.bool hb1) J (Ae (Ai 0 4 4 Bf J Aq J))<|Az (tj:=17) (.I m.Last) J J (congrArg AV.bool hb1) J (Af (Ah hI J J J Aq J))<|Az (tj:=17) (.q ids 0 g) J J (congrArg AV.bool hb1) J Z<|Az (tj:=17) (.q ids 0 g) J J (congrArg AV.bool hb1) J (Aj J)<|Az (tj:=17) (.q ids 0 g) J J (congrArg AV.bool hb1) J (Ae (Ai 0 0 0 Bd J As J))<|Az (tj:=17) (.ptr (ix ids 0) g 0 4) J J (congrArg AV.bool hb1) J (Ae (Ai 0 4 4 As J Bu J))<|Az (tj:=17) (.sl 2 (List.map Ak s_Replica.Log)) J J (congrArg AV.bool hb1) J (Af (Ah hI J J J Bu J)) ?_
  refine Az (tj:=17) (.I (s_Replica.Log.length:Int)) J J (congrArg AV.bool hb1) J (By (B5 Bu))<|Az (tj:=17) (.bool (decide (m.Last≥(s_Replica.Log.length:Int)))) J J (congrArg AV.bool hb1) J (Bk J J J)<|Az (tj:=11) (.bool (decide (m.Last≥(s_Replica.Log.length:Int)))) J J (congrArg AV.bool hb) J (B9 (t:=true) (congrArg AV.bool hb1) J)<|O (.bool (decide (m.Last≥(s_Replica.Log.length:Int)))) J J (B9 (t:=false) (congrArg AV.bool hb) J)<|O (.bool (decide (m.Last≥(s_Replica.Log.length:Int)))) J J Ap<|Bh<|Bt (hJ2 (decide (m.Last≥(s_Replica.Log.length:Int))) _ _ ⟨J,J⟩)
 refine A4 (tj:=17) (b:=false) J J (congrArg AV.bool hb1) J J<|A4 (tj:=17) (b:=false) J J (congrArg AV.bool hb1) J J<|A4 (tj:=17) (b:=false) J J (congrArg AV.bool hb1) J J<|A4 (tj:=17) (b:=false) J J (congrArg AV.bool hb1) J J<|A4 (tj:=17) (b:=false) J J (congrArg AV.bool hb1) J J<|A4 (tj:=17) (b:=false) J J (congrArg AV.bool hb1) J J<|A4 (tj:=17) (b:=false) J J (congrArg AV.bool hb1) J J ?_
 refine A4 (tj:=17) (b:=false) J J (congrArg AV.bool hb1) J J<|A4 (tj:=17) (b:=false) J J (congrArg AV.bool hb1) J J<|Az (tj:=11) (.bool false) J J (congrArg AV.bool hb) J (B9 (t:=false) (congrArg AV.bool hb1) J)<|O (.bool false) J J (B9 (t:=false) (congrArg AV.bool hb) J)<|O (.bool false) J J Ap<|Bh<|Bt (hJ2 false _ _ ⟨J,J⟩)
theorem Wp (s:List Bool):CPO Try.prog 70 [(.sl 1 (List.map rB s))] (Nb s) 1 rB:=by
 refine Vm (n:=8) 0 Try.func70 J (by decide) J J fun h0 ids hI=>Qs (Nb.eq_1 _)<|Ab<|Y<|Ac .emp J Ap<|Ad<|Ab ?_
 refine Ab<|Y<|Ac (.sl 1 (List.map rB s)) J Z<|Acy (L:=s) J Dm J fun c hc=>Ad ?_
 by_cases hl:s.length * 1≤C2
 case neg=>rw [if_neg hl]; exact Af5
 rw [if_pos hl]
 refine Nl c J ?_
 cases c with
 | true=>
  have hs:=hc rfl
  subst hs
  refine Ab<|Y<|Ac .emp J Ap<|Ad<|Sb (a:=[]) (v:=.emp) (g:=0) Try.func70 hI J J .nil J
 | false=>
  refine Bl<|Ab<|Y<|Aga J Dm Hf<|Ac (.sl 1 (List.map rB s)) J Z<|Kc (e:=rB) (L:=[]) (L2:=s) (v:=.emp) (g:=0) (st:=1) (j:=0) hI J J J J .nil J (Fr J) Dm Dm J Hf J J J (by simpa using hl) fun v g H=>Ac v J Ap ?_
  refine Ad<|Sb (a:=s) (v:=v) (g:=g) Try.func70 hI J J H J
end Go.Am

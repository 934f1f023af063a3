/- Written by shrink.py from texts of ours: comments struck, what is not reached left out, names short. -/
import Derived.Test.YtjidhdlbojmlfaaGreatDoorU3
import Derived.Test.YtjidhdlbojmlfaaGreatDoorU1
import Derived.Test.YtjidhdlbojmlfaaGreatDoorU2
import Derived.RangeFuncIn
import Derived.RangeFuncLeaves
import Derived.Deep.DeepHandedRow
import Derived.Lib.LaidU8
import Derived.Lay
import Derived.MakeChecks
import Derived.LaidMore
import Derived.WideKeyElems2
import Derived.KernelRfl
import Derived.Lib.Bytealg
import Derived.Lib.ItoaNum
import Derived.Lib.Join
import Derived.Lib.AtoiAll
import Derived.Lib.ItoaMem
import Derived.Lib.AtoiAllCases
import Derived.Shelf.Strings.Builder1
import Derived.Shelf.Strings.Builder2
import Derived.Shelf.Strings.OnBuilder
import Derived.Shelf.Small.Strs
import Derived.Shelf.Strings.Builder2Cap
import Derived.Shelf.Strconv.Atoi
import Derived.Shelf.Strconv.Itoa0
import Derived.Shelf.Strconv.Itoa1
import Derived.Shelf.LaysM
import Derived.Shelf.Strconv.Itoa2
import Derived.Shelf.Strconv.Itoa3
import Derived.Shelf.Strconv.AtoiErrFast
import Derived.Shelf.Strconv.ParseIntEmpty
import Derived.Shelf.Strconv.AtoiFail
import Derived.Shelf.Strconv.Clone
import Derived.Shelf.Strconv.SyntaxError
import Derived.Shelf.LaysC
import Derived.Shelf.Strconv.ToError
import Derived.Shelf.Strconv.Lower
import Derived.Shelf.Strconv.ParseUint10
import Derived.Shelf.Strconv.ParseUint10Empty
import Derived.Shelf.Strconv.ParseUint10Any
import Derived.Shelf.Strconv.ParseInt10
import Derived.Shelf.Strconv.AtoiLong
import Derived.Shelf.Strconv.AtoiInnerAll
import Derived.Shelf.Strconv.RangeError
import Derived.Shelf.Strconv.ToErrorRange
import Derived.Shelf.Strconv.AtoiAll
import Derived.Shelf.Strconv.ErrVarAll
import Derived.Shelf.Strings.Search1
import Derived.Test.YtjidhdlbojmlfaaGreatDoorProg
namespace Go.Am
open Go
set_option linter.unusedSimpArgs false
set_option linter.unusedVariables false
set_option linter.unusedSectionVars false
inductive AFz (h h2:Ae):AO→AO→Prop
 | same (x:AO):AFz h h2 x x
 | rows (g st:Nat) (rs rs':List (List AV)) (hl:rs.length=rs'.length) (hr : ∀ r ∈ rs',Eg st r) (hc : ∀ i j,i<rs.length→j<st→Fz h h2 (cell rs i j) (cell rs' i j)):AFz h h2 (.rows g st rs) (.rows g st rs')
def HFz (h h2:Ae):Prop := ∀ o y,h2 o=some y → ∃ x,h o=some x∧AFz h h2 x y
theorem AFz.gen {h h2:Ae}{x y:AO}(k:AFz h h2 x y):x.gen=y.gen:=by cases k <;> rfl
theorem HFz.subG {h h2:Ae}(k:HFz h h2):Adb h2 h:=fun o y e=>let ⟨x,h1,h2⟩:=k o y e; ⟨x,h1,h2.gen⟩
theorem Sim.fz {P:Program}[GW P]{B:Base P}{mu:Mu}{h h2:Ae}{w:World}(s:Sim B mu h w)(k:HFz h h2):Sim B mu h2 w:=by
 refine⟨s.base,s.muOk,s.fin,?_,?_,?_,?_,s.glob,fun o g x e=>by
  obtain⟨y,h1,hx⟩:=k o _ e
  cases hx with
  | same _=>exact s.blks o g x h1⟩
 ·obtain⟨N,hN⟩:=s.finh
  refine⟨N,fun o ho=>?_⟩
  cases hq:h2 o with
  | none=>rfl
  | some y=>obtain⟨x,h1,_⟩:=k o y hq; rw [hN o ho] at h1; cases h1
 ·intro o g st rs e
  obtain⟨x,h1,hx⟩:=k o _ e
  cases hx with
  | same _=>
   obtain⟨l,k1,k2,k3,k4,k5,k6⟩:=s.rows o g st rs h1
   exact⟨l,k1,k2,k3,k4,k5,fun i j hi hj=>let ⟨c,c1,c2⟩:=k6 i j hi hj; ⟨c,c1,Mz s k.subG (.same _) c2⟩⟩
  | rows _ _ rs0 _ hl hr hc=>
   obtain⟨l,k1,k2,k3,k4,k5,k6⟩:=s.rows o g st rs0 h1
   exact⟨l,k1,k2,k3,by rw [← hl]; exact k4,hr,fun i j hi hj=>let ⟨c,c1,c2⟩:=k6 i j (hl ▸ hi) hj; ⟨c,c1,Mz s k.subG (hc i j (hl ▸ hi) hj) c2⟩⟩
 ·intro o g es e
  obtain⟨x,h1,hx⟩:=k o _ e
  cases hx with
  | same _=>
   obtain⟨l,k1,k2,ens,clock,k3,k4,k5⟩:=s.maps o g es h1
   exact⟨l,k1,k2,ens,clock,k3,k4,fun i hi=>⟨Mz s k.subG (.same _) (k5 i hi).1,Mz s k.subG (.same _) (k5 i hi).2⟩⟩
 ·intro o o' x x' l l' e e' h1 h2 hb
  obtain⟨y,k1,k2⟩:=k _ _ e
  obtain⟨y',k1',k2'⟩:=k _ _ e'
  exact s.inj o o' y y' l l' k1 k1' (by rw [k2.gen]; exact h1) (by rw [k2'.gen]; exact h2) hb
section
variable {P:Program} [GW P] {f:FuncId} {n:Nat} {d:FK} {fr:Nat→AV} {ds:List AD} {h h2:Ae} {u:AU} {Q:QT} {k:List Item}
theorem Adc {fn:Func}{vs:List AV}{v':AV}(hf:P.funcs[f]? = some fn)(hx:L8 P h fr fn.results.toList=some vs)(hs:HFz h h2)(hz:Fz h h2 (K1 vs) v')(hu:d=false)(hq:Q (.ret v') h2 u):Qu P f n d .ret fr [] h u Q:=by
 intro B mu w a cs todo mode p hm
 obtain⟨c,h1,h2'⟩:=Tz p.sim p.fr hx
 have hd:a.defers=[]:=p.ds
 have hmode:=hm.ret_inv
 refine⟨.returned c,w,cs,_,.ret v',h2,mu,u,hq,Steps.refl P _,rfl,rfl,(by subst hu; exact⟨hmode,hd,fn,hf,h1⟩),Mz p.sim hs.subG hz h2',p.sim.fz hs,(F9.subG hs.subG).g,?_⟩
 subst hu
 rfl
end
inductive HL (h h2:Ae):List (Option AO)→List (Option AO)→Prop
 | nil:HL h h2 [] []
 | keep {x:Option AO} {xs ys:List (Option AO)} (r:HL h h2 xs ys):HL h h2 (x::xs) (x::ys)
 | drop {x:Option AO} {xs ys:List (Option AO)} (r:HL h h2 xs ys):HL h h2 (x::xs) (none::ys)
 | fz {g st:Nat} {row row':List AV} {xs ys:List (Option AO)} (hz:LF h h2 row row') (hl:row'.length=st) (hf:row'.all AV.flat=true) (r:HL h h2 xs ys):HL h h2 (some (.rows g st [row])::xs) (some (.rows g st [row'])::ys)
theorem HL.get {h h2:Ae}{xs ys:List (Option AO)}(k:HL h h2 xs ys):xs.length=ys.length ∧ ∀ (j:Nat) (y:AO),ys[j]? = some (some y) → ∃ x,xs[j]? = some (some x)∧AFz h h2 x y:=by
 induction k with
 | nil=>exact⟨rfl,fun j y e=>by simp at e⟩
 | keep r ih=>
  refine⟨by simp [ih.1],fun j y e=>?_⟩
  cases j with
  | zero=>simp only [List.getElem?_cons_zero,Option.some.injEq] at e; subst e; exact⟨y,by simp,.same _⟩
  | succ j=>simpa using ih.2 j y (by simpa using e)
 | drop r ih=>
  refine⟨by simp [ih.1],fun j y e=>?_⟩
  cases j with
  | zero=>simp at e
  | succ j=>simpa using ih.2 j y (by simpa using e)
 | @fz g st row row' xs ys hz hl hf r ih=>
  refine⟨by simp [ih.1],fun j y e=>?_⟩
  cases j with
  | zero=>
   simp only [List.getElem?_cons_zero,Option.some.injEq] at e
   subst e
   refine⟨.rows g st [row],by simp only [List.getElem?_cons_zero],.rows g st [row] [row'] rfl ?_ ?_⟩
   ·intro r hr
    rw [List.mem_singleton.1 hr]
    exact⟨hl,fun v hv=>List.all_eq_true.1 hf v hv⟩
   ·intro i j hi hj
    have:i=0:=by simpa using hi
    subst this
    have:=hz.all.2 j (by rw [hz.all.1,hl]; exact hj)
    simpa [cell] using this
  | succ j=>simpa using ih.2 j y (by simpa using e)
theorem HL.hfz {h0:Ae}{ids:List Nat}{N:Nat}{xs ys:List (Option AO)}(hI:Ids h0 ids N)(hl:xs.length=N)(k:HL (hp h0 ids xs) (hp h0 ids ys) xs ys):HFz (hp h0 ids xs) (hp h0 ids ys):=by
 intro o y e
 obtain⟨k1,k2⟩:=k.get
 by_cases ho:o ∈ ids
 ·obtain⟨j,hj,rfl⟩:=List.mem_iff_getElem.1 ho
  have ej:ids[j]=ix ids j:=by simp [ix,List.getD,hj]
  rw [ej] at e ⊢
  have hjl:j<ys.length:=by rw [← k1,hl,← hI.len]; exact hj
  have hy:=hI.at (xs:=ys) (j:=j) (x:=ys[j]) (by rw [← k1,hl]) (List.getElem?_eq_getElem hjl)
  rw [hy] at e
  obtain⟨x,hx,hz⟩:=k2 j y (by rw [List.getElem?_eq_getElem hjl,e])
  exact⟨x,hI.at hl hx,hz⟩
 ·rw [Ri ho] at e
  exact⟨y,by rw [Ri ho]; exact e,.same _⟩
def Rr:List Nat→List (Option AO)→List (Option AO)
 | [],xs=>xs
 | j::js,xs=>Rr js (xs.set j none)
def Q7:List Nat→List (Option AO)→List (Option AO)→List (Option AO)
 | j::js,y::ys,xs=>(Q7 js ys (xs.set j none)).set j y
 | _,_,xs=>xs
def Wm (ids:List Nat):List Nat→List Nat
 | []=>[]
 | j::js=>ix ids j::Wm ids js
def Qm (N:Nat):List Nat→Bool
 | []=>true
 | j::js=>Nat.blt j N && !js.contains j&&Qm N js
theorem Aff : ∀ (js:List Nat) (xs:List (Option AO)),(Rr js xs).length=xs.length
 | [],_=>rfl
 | j::js,xs=>by rw [Rr,Aff js]; simp
theorem Ad6 : ∀ (js:List Nat) (ys xs:List (Option AO)),(Q7 js ys xs).length=xs.length
 | [],_,_=>by simp [Q7]
 | _::_,[],_=>by simp [Q7]
 | j::js,y::ys,xs=>by rw [Q7,List.length_set,Ad6 js]; simp
theorem Ad0 : ∀ (js:List Nat) (xs:List (Option AO)) (i:Nat),xs[i]? = some none→(Rr js xs)[i]? = some none
 | [],_,_,h=>h
 | j::js,xs,i,h=>Ad0 js _ i (by
  rw [List.getElem?_set]
  split
  ·rename_i hq; subst hq
   rw [if_pos]
   rcases Nat.lt_or_ge j xs.length with hh | hh
   ·exact hh
   ·rw [List.getElem?_eq_none hh] at h; cases h
  ·exact h)
theorem Ah5 : ∀ (js:List Nat) (xs:List (Option AO)) (i:Nat),i ∈ js→i<xs.length→(Rr js xs)[i]? = some none
 | j::js,xs,i,hm,hi=>by
  rcases List.mem_cons.1 hm with rfl | hm
  ·exact Ad0 js _ i (by simp [hi])
  ·exact Ah5 js _ i hm (by simpa using hi)
section
variable {h0:Ae} {ids:List Nat} {N:Nat}
theorem Yb (hI:Ids h0 ids N) : ∀ {js:List Nat} {ys xs:List (Option AO)},xs.length=N→js.length=ys.length→Qm N js=true→hp (hp h0 ids (Rr js xs)) (Wm ids js) ys=hp h0 ids (Q7 js ys xs)
 | [],[],xs,_,_,_=>rfl
 | j::js,y::ys,xs,hl,hj,hk=>by
  simp only [Qm,Bool.and_eq_true] at hk
  simp only [Wm,hp,Rr,Q7]
  rw [Yb hI (js:=js) (ys:=ys) (xs:=xs.set j none) (by simpa using hl) (by simpa using hj) hk.2]
  rw [hI.set (by rw [Ad6]; simpa using hl) hk.1.1]
theorem Ids.sub' (hI:Ids h0 ids N){js:List Nat}{xs:List (Option AO)}(hl:xs.length=N)(hk:Qm N js=true):Ids (hp h0 ids (Rr js xs)) (Wm ids js) js.length:=by
 have hlt : ∀ {js:List Nat},Qm N js=true → ∀ j ∈ js,j<N:=by
  intro js
  induction js with
  | nil=>intro _ j hj; cases hj
  | cons i js ih=>
   intro hk j hj
   simp only [Qm,Bool.and_eq_true] at hk
   rcases List.mem_cons.1 hj with rfl | hj
   ·simpa using hk.1.1
   ·exact ih hk.2 j hj
 have hmem : ∀ {js:List Nat} {o:Nat},o ∈ Wm ids js → ∃ j ∈ js,o=ix ids j:=by
  intro js
  induction js with
  | nil=>intro o ho; cases ho
  | cons i js ih=>
   intro o ho
   rcases List.mem_cons.1 ho with rfl | ho
   ·exact⟨i,List.mem_cons_self ..,rfl⟩
   ·obtain⟨j,h1,h2⟩:=ih ho; exact⟨j,List.mem_cons_of_mem _ h1,h2⟩
 have hinj : ∀ {i j:Nat},i<N→j<N→ix ids i=ix ids j→i=j:=by
  intro i j hi hj e
  rw [← hI.len] at hi hj
  simp only [ix,List.getD,List.getElem?_eq_getElem hi,List.getElem?_eq_getElem hj,Option.getD_some] at e
  rcases Nat.lt_trichotomy i j with hh | hh | hh
  ·exact absurd e (List.pairwise_iff_getElem.1 hI.nodup i j hi hj hh)
  ·exact hh
  ·exact absurd e.symm (List.pairwise_iff_getElem.1 hI.nodup j i hj hi hh)
 refine⟨?_,?_,?_⟩
 ·have key : ∀ {js:List Nat},Qm N js=true→(Wm ids js).Nodup:=by
   intro js
   induction js with
   | nil=>intro _; exact List.nodup_nil
   | cons i js ih=>
    intro hk
    have hk':=hk
    simp only [Qm,Bool.and_eq_true] at hk
    refine List.nodup_cons.2 ⟨fun hm=>?_,ih hk.2⟩
    obtain⟨j,h1,h2⟩:=hmem hm
    have:=hinj (by simpa using hk.1.1) (hlt hk.2 j h1) h2
    subst this
    have:=hk.1.2
    simp [h1] at this
  exact key hk
 ·intro o ho
  obtain⟨j,h1,rfl⟩:=hmem ho
  exact hI.at (by rw [Aff]; exact hl) (Ah5 js xs j h1 (by rw [hl]; exact hlt hk j h1))
 ·clear hk
  induction js with
  | nil=>rfl
  | cons i js ih=>simp only [Wm,List.length_cons]; rw [ih]
end
def Cf {α:Type}(S:α→AV→Ae→Prop)(h0:Ae)(m:R α):AR→Ae→Prop:=fun r h'=>match m with
 | .ok a => ∃ v,r=.ret v∧S a v h'
 | .pan v=>r=.panic v.av∧h'=h0
 | .bad=>False
def Aco {α:Type}(S:α→AV→Ae→Prop)(h0:Ae):Spec α:=⟨fun m=>m≠.bad,fun h=>h rfl,fun m r h' _=>Cf S h0 m r h'⟩
def tkf (ids:List Nat):Nat→Nat→List Nat
 | 0,_=>[]
 | k+1,j=>ix ids j::tkf ids k (j+1)
theorem Ad2 : ∀ (ids:List Nat) (k j:Nat),j+k≤ids.length→(ids.drop j).take k=tkf ids k j
 | ids,0,j,_=>by simp [tkf]
 | ids,k+1,j,h=>by
  have hj:j<ids.length:=by omega
  rw [List.drop_eq_getElem_cons hj,List.take_succ_cons,tkf,Ad2 ids k (j+1) (by omega)]
  simp [ix,List.getD,hj]
section
variable {P:Program} [GW P] {f:FuncId} {n:Nat} {α:Type} {m:R α} {S:α→AV→Ae→Prop} {h0:Ae}
theorem A6 {fn : Func} {c : Code} {args : List AV} {os0 : List Nat} {K : Nat} {xs : List (Option AO)} (N : Nat) (hf : P.funcs[f]? = some fn) (hb : fn.body = some c) (hn : fn.name ≠ "runtime.NumGoroutine") (hnt : fn.ntmps = n) (hl : Nat.ble args.length n = true)
  (hI0 : Ids h0 os0 K) (hx : xs.length = K)
  (hr : ∀ ids, (∀ j, Nat.blt j K = true → ix ids j = ix os0 j) → Ids h0 ids (K + N) → WR P f n false (Aco S h0) m [.code c] (A2 (Xb 0 args)) [] (hp h0 ids (xs ++ List.replicate N none)) .ret) :
  m ≠ .bad → Bi P f args (hp h0 os0 xs) (Cf S h0 m) := by
 intro hb'
 refine Vn hf hb hn hnt (by simpa using hl) ?_
 refine Yu N os0 fun os h1 h2 h3 h4 => ?_
 have hout : ∀ o ∈ os, o ∉ os0 := fun o ho => h4 o ho
 have hI : Ids h0 (os0 ++ os) (K + N) := by
  refine ⟨List.nodup_append.2 ⟨hI0.nodup, h2, fun a ha b hb hq => hout b hb (hq ▸ ha)⟩, fun o ho => ?_, by simp [hI0.len, h1]⟩
  rcases List.mem_append.1 ho with ho | ho
  ·exact hI0.fresh o ho
  ·have := h3 o ho
   rwa [Ri (hout o ho)] at this
 have e : hp h0 (os0 ++ os) (xs ++ List.replicate N none) = hp h0 os0 xs := by
  rw [Vj (by rw [hI0.len, hx]), R7 fun o ho => hI.fresh o (List.mem_append_right _ ho)]
 have := hr (os0 ++ os) (fun j hj => by
  have hj' : j < os0.length := by rw [hI0.len]; simpa using hj
  simp [ix, List.getD, List.getElem?_append_left hj']) hI hb'
 rw [e] at this
 refine Q0 (fun t => ?_) this
 rcases R4 args 0 t with h | ⟨_, h⟩
 ·exact .inl h
 ·exact .inr h
section
variable {ids:List Nat} {xs:List (Option AO)} {K N:Nat} {l:List (Nat×AV)} {k:List Item} {u:AU}
theorem Agc (hI:Ids h0 ids (K+N)){ys:List (Option AO)}(hy:ys.length=K):hp h0 ids (ys++List.replicate N none)=hp h0 (tkf ids K 0) ys:=by
 have e:=Ad2 ids K 0 (by rw [hI.len]; omega)
 rw [List.drop_zero] at e
 rw [← e]
 have e2:ids=ids.take K++ids.drop K:=(List.take_append_drop K ids).symm
 conv=>lhs; rw [e2]
 rw [Vj (by rw [List.length_take,hI.len,hy]; omega),R7 fun o ho=>hI.fresh o (List.mem_of_mem_drop ho)]
theorem Dl {fn:Func}{a:α}{vs:List AV}{v:AV}(ys:List (Option AO))(hf:P.funcs[f]? = some fn)(hI:Ids h0 ids (K+N))(hl:xs.length=K+N)(hr:L8 P (hp h0 ids xs) (A2 l) fn.results.toList=some vs)
  (hy:ys.length=K) (hx:HL (hp h0 ids xs) (hp h0 ids (ys++List.replicate N none)) xs (ys++List.replicate N none)) (hz:Fz (hp h0 ids xs) (hp h0 ids (ys++List.replicate N none)) (K1 vs) v) (hS:S a v (hp h0 (tkf ids K 0) ys)) :
  WR P f n false (Aco S h0) (.ok a) (.code .ret::k) (A2 l) [] (hp h0 ids xs) u:=fun _=>by
 refine Ys (Adc hf hr (hx.hfz hI hl) hz rfl ⟨v,rfl,?_⟩)
 rw [Agc hI hy]; exact hS
theorem B3 {fn:Func}{a:α}{vs:List AV}{v:AV}(ys:List (Option AO))(hf:P.funcs[f]? = some fn)(hI:Ids h0 ids (K+N))(hl:xs.length=K+N)(hr:L8 P (hp h0 ids xs) (A2 l) fn.results.toList=some vs)
  (hy:ys.length=K) (hx:HL (hp h0 ids xs) (hp h0 ids (ys++List.replicate N none)) xs (ys++List.replicate N none)) (hz:Fz (hp h0 ids xs) (hp h0 ids (ys++List.replicate N none)) (K1 vs) v) (hS:S a v (hp h0 (tkf ids K 0) ys)) :
  WR P f n false (Aco S h0) (.ok a) [] (A2 l) [] (hp h0 ids xs) u:=fun _=>by
 refine Abg (Adc hf hr (hx.hfz hI hl) hz rfl ⟨v,rfl,?_⟩)
 rw [Agc hI hy]; exact hS
theorem Ao {fn:Func}{v:PV}{fr:Nat→AV}(hf:P.funcs[f]? = some fn)(hI:Ids h0 ids (K+N)):WU P f n false (Aco S h0) (.pan v) (.pan v.av false) fr [] (hp h0 ids xs) u:=fun _=>
 Adz hf (hI.sub xs) (.same _) ⟨rfl,rfl⟩
end
end
section
variable {P:Program} [GW P] {f:FuncId} {n:Nat} {d:FK} {β γ:Type} {Q:Spec β} {m:R β} {ds:List AD} {u:AU} {k:List Item} {l:List (Nat×AV)} {F:γ→R β}
variable {all r:List Oper} {ty:TypeId} {pos:String} {after:Array Edge} {h0:Ae} {ids:List Nat} {xs:List (Option AO)} {N:Nat}
theorem Alt {ops:List Oper}{fr:Nat→AV}(js:List Nat){xs zs:List (Option AO)}(ys:List (Option AO))(hI:Ids h0 ids N)(hl:xs.length=N)(hk:Qm N js=true)(hz:js.length=zs.length)(e:Q7 js zs xs=ys)(hr:WO P f n d Q k all m ops fr ds (hp h0 ids ys) u) :
  WO P f n d Q k all m ops fr ds (hp (hp h0 ids (Rr js xs)) (Wm ids js) zs) u:=by
 subst e
 rw [Yb hI hl hz hk]; exact hr
theorem Ak {α:Type}{dst:Option Tmp}{x:Operand}{as0:List Operand}{ts:Array TypeId}{g:FuncId}{fst cap A:List AV}{gd:Option (Nat×Bool)}{mg:R α}{S:α→AV→Ae→Prop}{rest:α→R γ}{zs:List (Option AO)}(js:List Nat)(hI:Ids h0 ids N)(hl:xs.length=N)(hk:Qm N js=true)
  (hc:mg≠.bad→Bi P g A (hp (hp h0 ids (Rr js xs)) (Wm ids js) zs) (Cf S (hp h0 ids (Rr js xs)) mg)) (hz:js.length=zs.length) (e2:Q7 js zs xs=xs)
  (ht:He n dst=true) (hw:Fk all (A2 l) ⟨dst,.call ⟨.value x,⟨as0⟩,ts⟩,ty,pos,after,gd⟩=some true) (hx:ev (A2 l) x=.func (.func g) fst cap) (ha:fst++Hn (A2 l) as0++cap=A)
  (hp' : ∀ v,mg=.pan v→WU P f n d Q (.pan v) (.pan v.av false) (A2 l) ds (hp h0 ids (Rr js xs)) u)
  (hk : ∀ a,mg=.ok a → ∀ v h',S a v h'→WO P f n d Q k all ((rest a).bind F) r (Gv (A2 l) dst v) ds h' u) :
  WO P f n d Q k all ((mg.bind rest).bind F) (⟨dst,.call ⟨.value x,⟨as0⟩,ts⟩,ty,pos,after,gd⟩::r) (A2 l) ds (hp h0 ids xs) u:=by
 rw [Yb hI hl hz ‹Qm N js=true›,e2] at hc
 refine Agq (R.bind_assoc _ _ _) (Pg ht hw fun hb K U hK hU=>?_)
 simp only [J9,hx]
 rw [ha]
 have hmb:mg≠.bad:=fun q=>by rw [q] at hb; exact Q.bad hb
 refine(hc hmb).mono fun r' h' hr=>?_
 cases hm:mg with
 | bad=>exact absurd hm hmb
 | ok a=>
  rw [hm] at hr hb hK
  obtain⟨v,rfl,hS⟩:=hr
  exact hK _ _ _ _ (hk a hm v h' hS)
 | pan v=>
  rw [hm] at hr hb hU
  obtain⟨rfl,rfl⟩:=hr
  exact hU _ _ _ _ _ (hp' v hm hb)
theorem Ap {ops:List Oper}{t:Nat}{v:AV}{h:Ae}(hr:WO P f n d Q k all m ops (A2 ((t,v)::l)) ds h u):WO P f n d Q k all m ops (Gv (A2 l) (some t) v) ds h u:=by rw [Ig]; exact hr
theorem Qh {α:Type}{pre:List (List Nat)}{plan:Hw}{pend:R0}{i:Nat}{dst:Option Tmp}{x:Operand}{as0:List Operand}{ts:Array TypeId}{g:FuncId}{fst cap A:List AV}{gd:Option (Nat×Bool)}{mg:R α}{S:α→AV→Ae→Prop}{rest:α→R γ}{zs:List (Option AO)}(js:List Nat)(hI:Ids h0 ids N)(hl:xs.length=N)(hk:Qm N js=true)
  (hc:mg≠.bad→Bi P g A (hp (hp h0 ids (Rr js xs)) (Wm ids js) zs) (Cf S (hp h0 ids (Rr js xs)) mg)) (hz:js.length=zs.length) (e2:Q7 js zs xs=xs) (ho:all[i]? = some ⟨dst,.call ⟨.value x,⟨as0⟩,ts⟩,ty,pos,after,gd⟩)
  (ht:He n dst=true) (hw:Fk all (A2 l) ⟨dst,.call ⟨.value x,⟨as0⟩,ts⟩,ty,pos,after,gd⟩=some true) (hx:ev (A2 l) x=.func (.func g) fst cap) (ha:fst++Hn (A2 l) as0++cap=A)
  (hp' : ∀ v,mg=.pan v → ∀ fr,(∀ t,(all.any fun o=>o.dst==some t)=false→fr t=A2 l t)→WU P f n d Q (.pan v) (.pan v.av false) fr ds (hp h0 ids (Rr js xs)) u)
  (hk : ∀ a,mg=.ok a → ∀ v h',S a v h'→Mt P all pre i h' pend∧WP P f n d Q k all pre ((rest a).bind F) plan pend (Gv (A2 l) dst v) ds h' u) :
  WP P f n d Q k all pre ((mg.bind rest).bind F) ((true,i)::plan) pend (A2 l) ds (hp h0 ids xs) u:=by
 rw [Yb hI hl hz ‹Qm N js=true›,e2] at hc
 refine Ag1 (R.bind_assoc _ _ _) (Aap ho ht hw fun hb K U hK hU=>?_)
 simp only [J9,hx]
 rw [ha]
 have hmb:mg≠.bad:=fun q=>by rw [q] at hb; exact Q.bad hb
 refine(hc hmb).mono fun r' h' hr=>?_
 cases hm:mg with
 | bad=>exact absurd hm hmb
 | ok a=>
  rw [hm] at hr hb hK
  obtain⟨v,rfl,hS⟩:=hr
  obtain⟨k1,k2⟩:=hk a hm v h' hS
  exact hK _ _ _ _ k1 k2
 | pan v=>
  rw [hm] at hr hb hU
  obtain⟨rfl,rfl⟩:=hr
  exact hU _ _ _ _ _ (fun fr' hf=>hp' v hm fr' hf hb)
theorem R6 {pre:List (List Nat)}{plan:Hw}{pend:R0}{i:Nat}{fr:Nat→AV}(js:List Nat){xs zs:List (Option AO)}(ys:List (Option AO))(hI:Ids h0 ids N)(hl:xs.length=N)(hk:Qm N js=true)(hz:js.length=zs.length)(e:Q7 js zs xs=ys)
  (hr:Mt P all pre i (hp h0 ids ys) pend∧WP P f n d Q k all pre m plan pend fr ds (hp h0 ids ys) u) :
  Mt P all pre i (hp (hp h0 ids (Rr js xs)) (Wm ids js) zs) pend∧WP P f n d Q k all pre m plan pend fr ds (hp (hp h0 ids (Rr js xs)) (Wm ids js) zs) u:=by
 subst e
 rw [Yb hI hl hz hk]; exact hr
theorem R9 {pre:List (List Nat)}{plan:Hw}{pend:R0}{t:Nat}{v:AV}{h:Ae}(hr:WP P f n d Q k all pre m plan pend (A2 ((t,v)::l)) ds h u):WP P f n d Q k all pre m plan pend (Gv (A2 l) (some t) v) ds h u:=by rw [Ig]; exact hr
end
theorem Ado {P:Program}[GW P]{f:FuncId}{n:Nat}{α:Type}{e:α→AV}{hdl:PV→R α}{h0:Ae}{ids:List Nat}{N:Nat}{xs:List (Option AO)}{l:List (Nat×AV)}{k:List Item}{u:AU}{fn:Func}{a:α}{vs:List AV}(hf:P.funcs[f]? = some fn)(hI:Ids h0 ids N)
  (hr:L8 P (hp h0 ids xs) (A2 l) fn.results.toList=some vs) (hz:Fz (hp h0 ids xs) h0 (K1 vs) (e a)) :
  WR P f n false (O5 e h0 hdl) (.ok a) (.code .ret::k) (A2 l) [] (hp h0 ids xs) u:=fun _=>
 Ys (Un hf hr (hI.sub xs) hz rfl ⟨rfl,rfl⟩)
end Go.Am
namespace Go.Am
open Go
set_option linter.unusedSimpArgs false
set_option linter.unusedVariables false
set_option linter.unusedSectionVars false
def P5 {α:Type}(l:List α)(a b:Int):List α:=(l.drop a.toNat).take (b.toNat - a.toNat)
section
variable {P:Program} [GW P] {h:Ae} {t et:TypeId} {a b st:Nat} {z:List AV} {E:TI} {s:List UInt8} {k k':IntKind} {lo hi:Int} {α:Type} {e:α→List AV} {L:List α}
theorem Agf {n:Nat}(h1:0≤lo)(h2:lo≤(n:Int))(d:Nat):Id (some (.int k lo)) d n=some lo.toNat:=by simp only [Id]; rw [if_pos ⟨h1,h2⟩]
theorem Ag9 (hT:ti P t=some ⟨.str,a,b,z⟩)(hc:0≤lo∧lo≤hi∧hi≤(s.length:Int)):N6 P h t (.str s) (some (.int k lo)) (some (.int k' hi)) none=some (.str (P5 s lo hi)):=by
 obtain⟨h1,h2,h3⟩:=hc
 simp only [N6,hT]
 rw [Agf (by omega) h3]
 simp only
 rw [Agf h1 (by omega)]
 rfl
theorem Afg (hT:ti P t=some ⟨.str,a,b,z⟩)(hc:0≤lo∧lo≤(s.length:Int)):N6 P h t (.str s) (some (.int k lo)) none none=some (.str (s.drop lo.toNat)):=by
 simp only [N6,hT,Id]
 rw [if_pos hc]
 simp only [Option.some.injEq,AV.str.injEq]
 rw [List.take_of_length_le (by simp)]
theorem Alg (hT:ti P t=some ⟨.str,a,b,z⟩)(hc:0≤hi∧hi≤(s.length:Int)):N6 P h t (.str s) none (some (.int k hi)) none=some (.str (s.take hi.toNat)):=by
 simp only [N6,hT]
 rw [Agf hc.1 hc.2]
 simp only [Id,List.drop_zero,Nat.sub_zero]
theorem L9 (hT:ti P t=some ⟨.sl et,a,b,z⟩)(hE:ti P et=some E)(hs:st=E.size)(hc:0≤lo∧lo≤(L.length:Int)):N6 P h t (.sl st (L.map e)) (some (.int k lo)) none none=some (.sl st ((L.drop lo.toNat).map e)):=by
 simp only [N6,hT,hE,Id]
 rw [if_pos hs]
 simp only [List.length_map]
 rw [if_pos hc]
 simp only [Option.some.injEq,AV.sl.injEq,true_and]
 rw [List.take_of_length_le (by simp),List.map_drop]
theorem Rz {m o g r c:Nat}{i:Int}(j:Nat)(hT:ti P t=some ⟨.arr m et,a,b,z⟩)(hE:ti P et=some E)(hi:i=(j:Int))(hj:Nat.blt j m=true):I1 P h t (.ptr o g r c) (.int k i)=some (.ptr o g r (c+j * E.size)):=by
 subst hi
 have:j<m:=by simpa using hj
 simp only [I1,hT,hE]
 rw [if_pos ⟨by omega,by omega⟩,Int.toNat_natCast]
end
section
variable {P:Program} [GW P] {f:FuncId} {n:Nat} {d:FK} {β γ:Type} {Q:Spec β} {fr:Nat→AV} {ds:List AD} {h:Ae} {u:AU} {k:List Item} {F:γ→R β} {all:List Oper}
theorem Ui {p:Prop}[Decidable p]{A B:R γ}{ops:List Oper}(ht:p→WO P f n d Q k all (A.bind F) ops fr ds h u)(hf:¬ p→WO P f n d Q k all (B.bind F) ops fr ds h u):WO P f n d Q k all ((if p then A else B).bind F) ops fr ds h u:=by
 have e:(if p then A else B).bind F=if p then A.bind F else B.bind F:=by split <;> rfl
 rw [e]; exact Amw ht hf
theorem Alb {p:Prop}[Decidable p]{A:R γ}{todo:List Item}(hk:p→WR P f n d Q (A.bind F) todo fr ds h u):WR P f n d Q ((if p then A else .bad).bind F) todo fr ds h u:=by
 intro hb
 by_cases hp:p
 ·simp only [if_pos hp] at hb ⊢; exact hk hp hb
 ·simp only [if_neg hp] at hb; exact absurd hb Q.bad
theorem Anh {ops:List Oper}:WO P f n d Q k all ((R.bad:R γ).bind F) ops fr ds h u:=fun hb=>absurd hb Q.bad
end
def Agx (v:AV)(b:Bool):Prop:=match b with
 | false=>v=.nili
 | true => ∃ t x,v=.iface t x
theorem Ajt {P:Program}[GW P]{t:TypeId}{v:AV}{b:Bool}{s by':Nat}{z:List AV}(hT:ti P t=some ⟨.ifc,s,by',z⟩)(hv:Agx v b):Ng P .neq t v .nili=some (.bool b):=by
 cases b with
 | false=>obtain rfl:v=.nili:=hv; exact Aa0 hT
 | true=>obtain⟨t',x,rfl⟩ : ∃ t x,v=.iface t x:=hv; exact Zg hT
theorem Ag2 {P:Program}[GW P]{o:BinOp}{t:TypeId}{x:Operand}{c:Value}{v:AV}{b:Bool}(ho:o=.eql∨o=.neq)(hv:Agx v b):K4 P o t x (.const c) v .nili=true:=by
 cases b with
 | false=>obtain rfl:v=.nili:=hv; rcases ho with rfl | rfl <;> simp [K4]
 | true=>obtain⟨t',x,rfl⟩ : ∃ t x,v=.iface t x:=hv; rcases ho with rfl | rfl <;> rfl
section
variable {P:Program} [GW P] [GW P]
theorem Qr.mk {g : FuncId} {gf : Func} {gc : Code} (h1 : P.funcs[g]? = some gf) (h2 : gf.body = some gc) (h3 : gf.name ≠ "runtime.NumGoroutine") : Qr P g := ⟨gf, gc, h1, h2, h3⟩
def Anc (w:World)(v:AV)(mu:Mu)(h:Ae):Ending→World→Prop:=fun e w'=>Go.RowKit.Below w.heap.size w w' ∧ ∃ c,e=.returned c∧RV h mu w' v c
theorem Ac6 {α:Type}{g:FuncId}{A:List AV}{m:R α}{e:α→AV}(hb:Qr P g)(hm : ∀ p,m≠.pan p)
  (hc : ∀ a,m=.ok a → ∀ (B:Base P) mu h w (cargs:Array Value),Sim B mu h w→Ob h mu w A cargs.toList→Calls P g cargs w (Anc w (e a) mu h)):CP P g A m e:=by
 intro h hne
 refine⟨hb,fun B mu w cargs s ha=>?_⟩
 cases hq:m with
 | bad=>exact absurd hq hne
 | pan p=>exact absurd hq (hm p)
 | ok a=>
  refine(hc a hq B mu h w cargs s ha).mono ?_
  rintro en w' ⟨k,c,rfl,hv⟩
  obtain⟨k1,k2⟩:=Below.ext s k
  exact⟨.ret (e a),h,mu,⟨rfl,rfl⟩,k1,k2,hv⟩
theorem Am9 {α:Type}{g:FuncId}{A:List AV}{m:R α}{S:α→AV→Ae→Prop}{h:Ae}(hb:Qr P g)(hm : ∀ p,m≠.pan p)
  (hc : ∀ a,m=.ok a → ∀ (B:Base P) mu w (cargs:Array Value),Sim B mu h w→Ob h mu w A cargs.toList→Calls P g cargs w fun en w'=>Go.RowKit.Below w.heap.size w w' ∧ ∃ v c,en=.returned c∧S a v h∧RV h mu w' v c):m≠.bad→Bi P g A h (Cf S h m):=by
 intro hne
 refine⟨hb,fun B mu w cargs s ha=>?_⟩
 cases hq:m with
 | bad=>exact absurd hq hne
 | pan p=>exact absurd hq (hm p)
 | ok a=>
  refine(hc a hq B mu w cargs s ha).mono ?_
  rintro en w' ⟨k,v,c,rfl,hS,hv⟩
  obtain⟨k1,k2⟩:=Below.ext s k
  exact⟨.ret v,h,mu,⟨v,rfl,hS⟩,k1,k2,hv⟩
theorem Afw {h:Ae}{mu:Mu}{w:World}{a:AV}{cargs:Array Value}(k:Ob h mu w [a] cargs.toList) : ∃ c,cargs = #[c]∧RV h mu w a c:=by
 obtain⟨l⟩:=cargs
 match l,k.1 with
 | [c],_=>exact⟨c,rfl,by simpa using k.2 0 (by simp)⟩
theorem Afs {h:Ae}{mu:Mu}{w:World}{a b:AV}{cargs:Array Value}(k:Ob h mu w [a,b] cargs.toList) : ∃ c d,cargs = #[c,d]∧RV h mu w a c∧RV h mu w b d:=by
 obtain⟨l⟩:=cargs
 match l,k.1 with
 | [c,d],_=>exact⟨c,d,rfl,by simpa using k.2 0 (by simp),by simpa using k.2 1 (by simp)⟩
theorem Z5 {h:Ae}{mu:Mu}{w:World}{s:List UInt8}{c:Value}(k:RV h mu w (.str s) c):c=.string ⟨s.toArray⟩:=by cases k; rfl
theorem Ah4 {h:Ae}{mu:Mu}{w:World}{t:IntKind}{n:Int}{c:Value}(k:RV h mu w (.int t n) c):c=.int t n:=by cases k; rfl
theorem Amz {h:Ae}{mu:Mu}{w:World}{st:Nat}{c:Value}(k:RV h mu w (.sl st []) c) : ∃ a cap,c=.slice a 0 cap:=by
 cases k with
 | sl0 _ a cap=>exact⟨a,cap,rfl⟩
 | sl _ _ b off cap=>exact⟨_,cap,rfl⟩
theorem Alz {h:Ae}{mu:Mu}{w:World}{l:List Aw}{c:Value}(k:RV h mu w (.sl 1 (l.map rS)) c):l=[] ∨ ∃ bk o cap,c=.slice (some ⟨bk,o,none⟩) l.length cap∧bk<w.heap.size∧l.length≤Ek∧l.length≤cap ∧ ∀ j x,l[j]? = some x→w.cell? ⟨bk,o+j,none⟩=some (.string ⟨x.toArray⟩):=by
 generalize hr:l.map rS=rows at k
 cases k with
 | sl0 _ a cap=>exact .inl (List.map_eq_nil_iff.1 hr)
 | sl _ _ b off cap vs hcap hlim h1 h2 h5 h3 h4=>
  subst hr
  refine .inr ⟨b,off,cap,by rw [List.length_map],h4,by simpa using hlim,by simpa using hcap,fun j x hx=>?_⟩
  have hj:j<l.length:=A8 hx
  have:=h1 j 0 (by simpa using hj) (by omega)
  have h2':=h2 j 0 (by simpa using hj) (by omega)
  rw [Nat.mul_one,Nat.add_zero] at this
  rw [this]
  have e:cell (l.map rS) j 0=.str x:=by simp [cell,hx,rS]
  rw [e] at h2'
  rw [Z5 h2']
end
end Go.Am
namespace Go.Am
open Go
set_option linter.unusedSimpArgs false
set_option linter.unusedVariables false
set_option linter.unusedSectionVars false
inductive HM (h h2:Ae):List (Option AO)→List (Option AO)→Prop
 | nil:HM h h2 [] []
 | keep {x:Option AO} {xs ys:List (Option AO)} (r:HM h h2 xs ys):HM h h2 (x::xs) (x::ys)
 | drop {x:Option AO} {xs ys:List (Option AO)} (r:HM h h2 xs ys):HM h h2 (x::xs) (none::ys)
 | own {α:Type} {e:α→List AV} {L:List α} {v:AV} {g st i:Nat} {y:α} {row:List AV} {xs ys:List (Option AO)} (hr : ∀ x,Eg st (e x)) (hz:LF h h2 row (e y)) (r:HM h h2 xs ys) :
   HM h h2 (Ai v g st ((L.map e).set i row)::xs) (Ai v g st ((L.set i y).map e)::ys)
theorem HM.get {h h2:Ae}{xs ys:List (Option AO)}(k:HM h h2 xs ys):xs.length=ys.length ∧ ∀ (j:Nat) (y:AO),ys[j]? = some (some y) → ∃ x,xs[j]? = some (some x)∧AFz h h2 x y:=by
 induction k with
 | nil=>exact⟨rfl,fun j y e=>by simp at e⟩
 | keep r ih=>
  refine⟨by simp [ih.1],fun j y e=>?_⟩
  cases j with
  | zero=>simp only [List.getElem?_cons_zero,Option.some.injEq] at e; subst e; exact⟨y,by simp,.same _⟩
  | succ j=>simpa using ih.2 j y (by simpa using e)
 | drop r ih=>
  refine⟨by simp [ih.1],fun j y e=>?_⟩
  cases j with
  | zero=>simp at e
  | succ j=>simpa using ih.2 j y (by simpa using e)
 | @own α e L v g st i y row xs ys hr hz r ih=>
  refine⟨by simp [ih.1],fun j z hz'=>?_⟩
  cases j with
  | succ j=>simpa using ih.2 j z (by simpa using hz')
  | zero=>
   simp only [List.getElem?_cons_zero,Option.some.injEq] at hz' ⊢
   have key:AFz h h2 (.rows g st ((L.map e).set i row)) (.rows g st ((L.set i y).map e)):=by
    refine .rows g st _ _ (by simp) (fun q hq=>?_) fun a b ha hb=>?_
    ·obtain⟨w,_,rfl⟩:=List.mem_map.1 hq
     exact hr w
    ·rw [List.map_set]
     by_cases hia:i=a
     ·subst hia
      have hlt:i<(L.map e).length:=by simpa using ha
      simp only [cell]
      have e1:((L.map e).set i row).getD i []=row:=by rw [List.getD_eq_getElem?_getD,List.getElem?_set_self hlt]; rfl
      have e2:((L.map e).set i (e y)).getD i []=e y:=by rw [List.getD_eq_getElem?_getD,List.getElem?_set_self hlt]; rfl
      rw [e1,e2]
      exact hz.all.2 b (by rw [hz.all.1,(hr y).1]; exact hb)
     ·simp only [cell]
      have e1:((L.map e).set i row).getD a []=(L.map e).getD a []:=by simp [List.getD,List.getElem?_set_ne hia]
      have e2:((L.map e).set i (e y)).getD a []=(L.map e).getD a []:=by simp [List.getD,List.getElem?_set_ne hia]
      rw [e1,e2]
      exact .same _
   unfold Ai at hz' ⊢
   split at hz'
   ·cases hz'
   ·rename_i hv
    cases hz'
    exact⟨_,rfl,key⟩
theorem HM.hfz {h0:Ae}{ids:List Nat}{N:Nat}{xs ys:List (Option AO)}(hI:Ids h0 ids N)(hl:xs.length=N)(k:HM (hp h0 ids xs) (hp h0 ids ys) xs ys):HFz (hp h0 ids xs) (hp h0 ids ys):=by
 intro o y e
 obtain⟨k1,k2⟩:=k.get
 by_cases ho:o ∈ ids
 ·obtain⟨j,hj,rfl⟩:=List.mem_iff_getElem.1 ho
  have ej:ids[j]=ix ids j:=by simp [ix,List.getD,hj]
  rw [ej] at e ⊢
  have hjl:j<ys.length:=by rw [← k1,hl,← hI.len]; exact hj
  have hy:=hI.at (xs:=ys) (j:=j) (x:=ys[j]) (by rw [← k1,hl]) (List.getElem?_eq_getElem hjl)
  rw [hy] at e
  obtain⟨x,hx,hz⟩:=k2 j y (by rw [List.getElem?_eq_getElem hjl,e])
  exact⟨x,hI.at hl hx,hz⟩
 ·rw [Ri ho] at e
  exact⟨y,by rw [Ri ho]; exact e,.same _⟩
end Go.Am
namespace Go.Am
open Go
set_option linter.unusedSimpArgs false
set_option linter.unusedVariables false
set_option linter.unusedSectionVars false
section
variable {α:Type} {n:Nat} {e:α→List AV} {E:α→AV} {v:Vector α n} {i:Nat}
theorem Eg.all {s:Nat}{r:List AV}(h:Eg s r):r.all AV.flat=true:=List.all_eq_true.2 h.2
end
section
variable {P:Program} [GW P] {h:Ae} {t et:TypeId} {a b:Nat} {z:List AV} {E:TI} {k:IntKind}
theorem toNat_lt {i:Int}{m:Nat}(h:0≤i∧i<(m:Int)):i.toNat<m:=by omega
end
theorem Wg {h h2:Ae} : ∀ l:List AV,LF h h2 l l
 | []=>.nil
 | a::l=>.cons (.same a) (Wg l)
def R.np {α:Type}:R α→R α
 | .pan _=>.bad
 | m=>m
@[simp] theorem R.np_ok {α:Type}(a:α):(R.ok a).np=.ok a:=rfl
end Go.Am
namespace Go.Am
open Go
set_option linter.unusedSimpArgs false
set_option linter.unusedVariables false
set_option linter.unusedSectionVars false
end Go.Am
namespace Go.Am
open Go
set_option linter.unusedSimpArgs false
set_option linter.unusedVariables false
set_option linter.unusedSectionVars false
section
variable {P:Program} [GW P] {f:FuncId} {n:Nat} {d:FK} {fr:Nat→AV} {ds:List AD} {h:Ae} {u:AU} {Q:QT} {k:List Item}
theorem Sim.take {B:Base P}{mu:Mu}{w:World}{b:Nat}{x:Option (List Deferred)}(s:Sim B mu h w)(hb:w.heap[b]? = some (.deferred x))(hm:¬ D4 h mu b)(hn:B.n≤b){n0:Nat}(hn0:n0≤b) :
  Sim B mu h { w with heap:=w.heap.setIfInBounds b (.deferred none) }∧Aa6 n0 h mu w h mu { w with heap:=w.heap.setIfInBounds b (.deferred none) }:=by
 have hlt:b<w.heap.size:=by
  rcases Nat.lt_or_ge b w.heap.size with hh | hh
  ·exact hh
  ·rw [Array.getElem?_eq_none hh] at hb; cases hb
 have hne : ∀ k,k≠b→(w.heap.setIfInBounds b (.deferred none))[k]? = w.heap[k]? := fun k hk=>Array.getElem?_setIfInBounds_ne (Ne.symm hk)
 have hself:(w.heap.setIfInBounds b (.deferred none))[b]? = some (.deferred none):=by simp [hlt]
 have ext:Aa6 n0 h mu w h mu { w with heap:=w.heap.setIfInBounds b (.deferred none) }:=
  ⟨rfl,rfl,rfl,by simp,fun k hk hkm=>⟨by
   by_cases hq:k=b
   ·subst hq; exact .inr ⟨hn0,_,_,hb,hself⟩
   ·exact .inl (hne k hq),hkm⟩,fun _ _ _ h=>h⟩
 have hcell : ∀ a:Addr,({ w with heap:=w.heap.setIfInBounds b (.deferred none) }:World).cell? a=w.cell? a:=fun a=>by
  by_cases hq:a.block=b
  ·unfold World.cell?
   show(match (w.heap.setIfInBounds b (.deferred none))[a.block]? with | some (.cells cells _ _)=>_ | _=>_)=_
   rw [hq,hself,hb]
  ·exact cell?_of_heap (hne _ hq)
 have hnb : ∀ {o x l},h o=some x→mu o x.gen=some l→l.b≠b:=fun h1 h2 hq=>hm ⟨_,_,_,h1,h2,hq⟩
 refine⟨⟨by simpa using s.base,fun o g l hl=>?_,s.fin,s.finh,fun o g st rs hx=>?_,fun o g es hx=>?_,s.inj,GW.step s.glob fun k hk=>hne k (by omega),fun o g x hx=>?_⟩,ext⟩
 ·obtain⟨h1,h2,h3⟩:=s.muOk o g l hl
  refine⟨h1,by simpa using h2,fun hc=>?_⟩
  obtain⟨cells,e,f,k1,k2,k3⟩:=h3 hc
  have:l.b≠b:=fun hq=>by rw [hq,hb] at k1; cases k1
  exact⟨cells,e,f,(hne _ this).trans k1,k2,k3⟩
 ·obtain⟨l,h1,h2,h3,h4,h5,h6⟩:=s.rows o g st rs hx
  refine⟨l,h1,h2,h3,h4,h5,fun i j hi hj=>?_⟩
  obtain⟨c,hc1,hc2⟩:=h6 i j hi hj
  exact⟨c,(hcell _).trans hc1,hc2.extG ext⟩
 ·obtain⟨l,h1,h2,ens,clock,h3,h4,h5⟩:=s.maps o g es hx
  exact⟨l,h1,h2,ens,clock,⟨(hne _ (hnb hx h1)).trans h3.1,h3.2⟩,h4,fun i hi=>⟨(h5 i hi).1.extG ext,(h5 i hi).2.extG ext⟩⟩
 ·obtain⟨l,h1,h2,h3⟩:=s.blks o g x hx
  exact⟨l,h1,h2,(hne _ (hnb hx h1)).trans h3⟩
theorem Ob.extG {n:Nat}{h h':Ae}{mu mu':Mu}{w w':World}(e:Aa6 n h mu w h' mu' w'){l:List AV}{cs:List Value}(k:Ob h mu w l cs):Ob h' mu' w' l cs:=⟨k.1,fun i hi=>(k.2 i hi).extG e⟩
theorem P9.extG {n:Nat}{h h':Ae}{mu mu':Mu}{w w':World}(e:Aa6 n h mu w h' mu' w'){u:AU}{m:FrameMode}(k:P9 h mu w u m):P9 h' mu' w' u m:=by
 unfold P9 at k ⊢
 split at k
 ·trivial
 ·exact⟨k.1,k.2.1,k.2.2.extG e⟩
 ·exact k.elim
structure LpOk (f n:Nat)(params:Array Tmp)(assign body:Code)(r:Loop):Prop where
 ready:r.state=.ready
 pend:r.pending=none
 fn:r.fn=f
 size:r.tmps.size=n
 params:r.params=params
 assign:r.assign=assign
 body:r.body=body
end
end Go.Am
namespace Go.Am
open Go
set_option linter.unusedSimpArgs false
set_option linter.unusedVariables false
set_option linter.unusedSectionVars false
end Go.Am
namespace Go.Am
@[reducible] def Y6 {α β γ δ ε ζ η θ ι ω:Type}(f:α→β→γ→δ→ε→ζ→η→θ→ι→ω):α×β×γ×δ×ε×ζ×η×θ×ι→ω | (x0,x1,x2,x3,x4,x5,x6,x7,x8)=>f x0 x1 x2 x3 x4 x5 x6 x7 x8
@[simp] theorem Aoq {α β γ δ ε ζ η θ ι ω:Type}(f:α→β→γ→δ→ε→ζ→η→θ→ι→ω)(x0:α)(x1:β)(x2:γ)(x3:δ)(x4:ε)(x5:ζ)(x6:η)(x7:θ)(x8:ι):Y6 f (x0,x1,x2,x3,x4,x5,x6,x7,x8)=f x0 x1 x2 x3 x4 x5 x6 x7 x8:=rfl
end Go.Am
namespace Go.Am
open Go
set_option linter.unusedVariables false
set_option linter.unusedSectionVars false
theorem Ans {P:Program}[GW P]{f:FuncId}{n:Nat}{d:FK}{α β γ:Type}{Q:Spec β}{k:List Item}{all ops:List Oper}{fr:Nat→AV}{ds:List AD}{h:Ae}{u:AU}{F:γ→R β}{m:R α}{rest:α→R γ}
  (hk:(∀ v,m≠.pan v)→WO P f n d Q k all ((m.bind rest).bind F) ops fr ds h u):WO P f n d Q k all ((m.np.bind rest).bind F) ops fr ds h u:=by
 cases m with
 | ok a=>exact hk (fun v hv=>by cases hv)
 | pan v=>exact fun hb=>absurd hb Q.bad
 | bad=>exact fun hb=>absurd hb Q.bad
end Go.Am
namespace Go.Am
open Go
set_option linter.unusedVariables false
set_option linter.unusedSectionVars false
theorem Akc {P:Program}{W:World}{name:String}{k:IntKind}{zs:List Int}{g:Nat}{t e:TypeId}{n:Nat}(hg:P.globalNamed name=some g)(hty:(P.globals[g]?).map (·.type)=some t)(ht:P.underlying t=some (.array n e))(he:P.underlying e=some (.int k))(hce:P.cellsOf e=1)(hct:P.cellsOf t=n)
  (h:Lib.VarReads P W name (Lib.tabData k zs)):Lib.TabIs P W name k zs:=by
 obtain⟨g',t',cs,fuel,p,hg',ht',hvar,hd⟩:=h
 obtain rfl:=Option.some.inj (hg.symm.trans hg')
 obtain rfl:=Option.some.inj (hty.symm.trans ht')
 unfold Lib.TabIs
 rw [hvar,← Lib.cells_of_tab ht he hce hct hd]
theorem Ab2 {P:Program}{W:World}{name u:String}{d:DataW Unit}{g:Nat}{t:TypeId}{ms:Array _}(hg:P.globalNamed name=some g)(hty:(P.globals[g]?).map (·.type)=some t)(ht:P.underlying t=some (.interface ms))
  (h:Lib.VarReads P W name (.iface u d)) : ∃ tp p,W.var? P name=some #[.iface tp p]:=by
 obtain⟨g',t',cs,fuel,p,hg',ht',hvar,hd⟩:=h
 obtain rfl:=Option.some.inj (hg.symm.trans hg')
 obtain rfl:=Option.some.inj (hty.symm.trans ht')
 cases fuel with
 | zero=>simp [DataW.trod] at hd
 | succ fuel=>
  obtain⟨cs⟩:=cs
  cases cs with
  | nil=>simp [DataW.trod,ht] at hd
  | cons v rest=>
   cases rest with
   | cons a b=>simp [DataW.trod,ht] at hd
   | nil=>
    cases v with
    | iface tp q=>exact⟨tp,q,hvar⟩
    | _=>simp [DataW.trod,ht] at hd
theorem Amh {P:Program}{W:World}{name:String}{g:Nat}{d:DataW Unit}(hg:P.globalNamed name=some g)(h:Lib.VarReads P W name d):g<W.heap.size:=by
 obtain⟨g',t',cs,fuel,p,hg',ht',hvar,hd⟩:=h
 obtain rfl:=Option.some.inj (hg.symm.trans hg')
 unfold World.var? at hvar
 rw [hg] at hvar
 rcases Nat.lt_or_ge g W.heap.size with h | h
 ·exact h
 ·simp [Array.getElem?_eq_none h] at hvar
theorem Yl {H:Type}{enc:TypeId×Value→H}{C:Checked}{os:Os}{f:FuncId}{fn:Func}{s:OpenSpec}{conds:List PathCond}{apart:Bool}{laid:List (String×DataW Unit)}(modest:Bool)(w0:World)(args:Array Value)(hos:w0.os=os)
  (hsh:(w0.forCall (fun _ _=>0) ⟨#[],args,[]⟩).Shaped C.prog)
  (hok:Input.okWideB C.prog (w0.forCall (fun _ _=>0) ⟨#[],args,[]⟩) f ⟨#[],args,[]⟩=true)
  (hrow:s.preRow enc C.prog fn conds apart laid (w0.forCall (fun _ _=>0) ⟨#[],args,[]⟩).memory args) :
  ∃ (w:World) (tape:Tape) (i:Input),w.os=os∧(w.forCall tape i).Shaped C.prog∧i.vars=[]∧Input.okWide C.prog (w.forCall tape i) .any w.heap.size f i ∧
   s.preRow enc C.prog fn conds apart laid (w.forCall tape i).memory i.args∧({ modest:=modest }:Assume).holds C.prog (lone (Frame.enter C.prog f i.args .normal) [] (w.forCall tape i)):=
 ⟨w0,fun _ _=>0,⟨#[],args,[]⟩,hos,hsh,(Input.okWide_of_okWideB (base:=0) hok).1,(Input.okWide_of_okWideB hok).2,hrow,by
  simp only [Assume.holds]
  exact⟨by simp,by simp,fun _=>Modest.zero,by simp,by simp⟩⟩
end Go.Am
namespace Go.Am
open Go
set_option linter.unusedVariables false
set_option linter.unusedSectionVars false
section
variable {P:Program} [GW P] {h:Ae}
theorem Anq {t:TypeId}{T:TI}{b c:Nat}{row:List AV}{v:AV}(hr:GW.row P b=some row)(hT:ti P t=some T)(hv:J1 row c T.size T.k.agg=some v):Nv P h t (.gptr ⟨b,c,none⟩)=some v:=by simp only [Nv,hT,hr,hv]
theorem N3 {t kt et:TypeId}{a b:Nat}{z:List AV}{K:TI}{ET:TI}{es:List (Aw×AV)}{s c:Aw}{q:Aw×AV}(hT:ti P t=some ⟨.map kt et,a,b,z⟩)(hK:ti P kt=some K)(hk:K.k=.str)(hE:ti P et=some ET)(hs:(s==c)=true)(hf:es.find? (fun p=>c==p.1)=some q) :
  Pq P h t (.mapc es) (.str s) true=some (.tup [q.2,.bool true]):=by
 obtain rfl:=eq_of_beq hs
 obtain⟨r,h1,h2⟩:=U0 (k:=s) es 0
 rw [hf] at h2
 obtain⟨j,v,rfl⟩ : ∃ j v,r=some (j,v):=by cases r with | none=>simp at h2 | some q=>exact⟨q.1,q.2,rfl⟩
 obtain rfl:v=q.2:=by simpa using h2
 simp only [Pq,hT,hK,hE,Xy,hk,Vh,if_true,h1]
theorem Ajp {t kt et:TypeId}{a b:Nat}{z:List AV}{K:TI}{ET:TI}{es:List (Aw×AV)}{s:Aw}{v:AV}(hT:ti P t=some ⟨.map kt et,a,b,z⟩)(hK:ti P kt=some K)(hk:K.k=.str)(hE:ti P et=some ET)(hz:J1 ET.z 0 ET.size ET.k.agg=some v)(hf:es.find? (fun p=>s==p.1)=none) :
  Pq P h t (.mapc es) (.str s) true=some (.tup [v,.bool false]):=by
 obtain⟨r,h1,h2⟩:=U0 (k:=s) es 0
 rw [hf] at h2
 obtain rfl:r=none:=by simpa using h2
 simp only [Pq,hT,hK,hE,Xy,hk,Vh,if_true,h1,hz]
theorem Rh {es:List (Aw×AV)}{s c:Aw}{v:AV}(h:(s==c)=false)(r:es.find? (fun p=>s==p.1)=none):((c,v)::es).find? (fun p=>s==p.1)=none:=by rw [List.find?_cons]; simp only [h]; exact r
end
section
variable {P:Program} [GW P] {f:FuncId} {n:Nat} {γ:Type} {m:R γ} {u u':AU} {h0:Ae}
theorem Ah1 {fn : Func} {c : Code} {args : List AV} {os0 : List Nat} {K : Nat} {xs : List (Option AO)} {ysf : γ → List (Option AO)} (N : Nat) (hf : P.funcs[f]? = some fn) (hb : fn.body = some c) (hn : fn.name ≠ "runtime.NumGoroutine") (hnt : fn.ntmps = n) (hl : Nat.ble args.length n = true)
  (hI0 : Ids h0 os0 K) (hx : xs.length = K) (hy : ∀ a, (ysf a).length = K)
  (hr : ∀ ids, (∀ j, Nat.blt j K = true → ix ids j = ix os0 j) → Ids h0 ids (K + N) → WR P f n true (Agd (fun a => hp h0 ids (ysf a ++ List.replicate N none)) u') m [.code c] (A2 (Xb 0 args)) [] (hp h0 ids (xs ++ List.replicate N none)) u) :
  (∃ a, m = .ok a) → N2 P f args u (hp h0 os0 xs) (Ym (fun a => hp h0 os0 (ysf a)) u' m) := by
 intro hm
 refine Y9 hf hb hn hnt (by simpa using hl) ?_
 refine Yu N os0 fun os h1 h2 h3 h4 => ?_
 have hout : ∀ o ∈ os, o ∉ os0 := fun o ho => h4 o ho
 have hI : Ids h0 (os0 ++ os) (K + N) := by
  refine ⟨List.nodup_append.2 ⟨hI0.nodup, h2, fun a ha b hb hq => hout b hb (hq ▸ ha)⟩, fun o ho => ?_, by simp [hI0.len, h1]⟩
  rcases List.mem_append.1 ho with ho | ho
  ·exact hI0.fresh o ho
  ·have := h3 o ho
   rwa [Ri (hout o ho)] at this
 have e : ∀ zs : List (Option AO), zs.length = K → hp h0 (os0 ++ os) (zs ++ List.replicate N none) = hp h0 os0 zs := fun zs hz => by
  rw [Vj (by rw [hI0.len, hz]), R7 fun o ho => hI.fresh o (List.mem_append_right _ ho)]
 have := hr (os0 ++ os) (fun j hj => by
  have hj' : j < os0.length := by rw [hI0.len]; simpa using hj
  simp [ix, List.getD, List.getElem?_append_left hj']) hI hm
 rw [e xs hx] at this
 refine Q0 (fun t => ?_) (Ajy this ?_)
 ·rcases R4 args 0 t with h | ⟨_, h⟩
  ·exact .inl h
  ·exact .inr h
 ·rintro r h' u1 ⟨a, h1, h2, h3, h4⟩
  exact ⟨a, h1, h2, h3.trans (e _ (hy a)), h4⟩
end
def Jf (l:List (Aw×Aw×FuncId)):List (Aw×AV):=l.map fun x=>(x.1,.func (.func x.2.2) [] [])
def Wx (l:List (Aw×Aw×FuncId)):DataW (List UInt8):=.map (l.map fun x=>(.string x.1,.held x.2.1))
def Amx (P:Program)(l:List (Aw×Aw×FuncId)):Bool:=l.all fun x => !x.2.1.isEmpty&&((List.range P.funcs.size).filter fun f=>(P.funcs[f]?).any (·.name.toUTF8.data.toList==x.2.1))==[x.2.2]
structure FMapAt (w:World)(m g:Nat)(es:List (Aw×AV)):Prop where
 ex : ∃ (b:Nat) (ens:Array MapEntry) (clock:Nat) (es2:List (Aw×AV)),w.cell? ⟨g,0,none⟩=some (.map (some b))∧b<m∧w.heap[b]? = some (.map ens clock)∧es2.Perm es∧es2.length=ens.size ∧
  ∀ i,i<es2.length→(ens.getD i default).key=.string ⟨(es2.getD i ([],.und)).1.toArray⟩ ∧ ∃ k,(es2.getD i ([],.und)).2=.func (.func k) [] []∧(ens.getD i default).val=.func (.func k) #[] #[]
 nd:(es.map (·.1)).Nodup
theorem FMapAt.keep {w w':World}{m g:Nat}{es:List (Aw×AV)}(k:FMapAt w m g es)(hg:g<m)(e : ∀ b,b<m→w'.heap[b]? = w.heap[b]?):FMapAt w' m g es:=by
 obtain⟨⟨b,ens,clock,es2,h1,h2,h3,h4,h5,h6⟩,hnd⟩:=k
 exact⟨⟨b,ens,clock,es2,by rw [cell?_of_heap (w:=w) (a:=⟨g,0,none⟩) (e g hg)]; exact h1,h2,by rw [e b h2]; exact h3,h4,h5,h6⟩,hnd⟩
theorem FMapAt.rv {w:World}{m g:Nat}{es:List (Aw×AV)}(k:FMapAt w m g es)(hm:m≤w.heap.size){mu:Mu}{M:Nat→Prop}(hM : ∀ b,M b→m≤b) : ∃ x,w.cell? ⟨g,0,none⟩=some x∧Rv w mu M (.mapc es) x:=by
 obtain⟨⟨b,ens,clock,es2,h1,h2,h3,h4,h5,h6⟩,hnd⟩:=k
 refine⟨_,h1,.mapc es es2 h4 hnd b ens clock h3 h5 (fun i hi=>(h6 i hi).1) (fun i hi=>?_) (fun hb=>by have:=hM b hb; omega) (by omega)⟩
 obtain⟨_,k,e1,e2⟩:=h6 i hi
 rw [e1,e2]
 exact .func _ [] [] [] [] rfl rfl (fun i hi=>by simp at hi) (fun i hi=>by simp at hi)
open Go.ChangeShapes Go.WideShapes Go.WideElems
theorem Ahb {P:Program}{e:TypeId}{ps rs:Array TypeId}{va:Bool}{v c:Value}(he:P.underlying e=some (.func ps rs va))(hf:v.formed P e=true)(hc:v.cells.toList=[c]):v=c:=by
 cases v with
 | agg a=>simp [Value.formed,he] at hf
 | _=>simpa [Value.cells] using hc
theorem Akp {P:Program}{W:World}{name:String}{d:DataW Unit}{l:List (Aw×Aw×FuncId)}{g:Nat}{t k e:TypeId}{ps rs:Array TypeId}{va:Bool}(h:funcsAt P W name d)(hd:d.funcsOut=Wx l)(hg:P.globalNamed name=some g)(hty:(P.globals[g]?).map (·.type)=some t)
  (ht:P.underlying t=some (.map k e)) (hk:P.underlying k=some .string) (he:P.underlying e=some (.func ps rs va)) (hok:Amx P l=true) (hnd:((Jf l).map (·.1)).Nodup):FMapAt W W.heap.size g (Jf l):=by
 obtain⟨g',t',cs,fuel,p,hg',ht',hvar,hr⟩:=h
 obtain rfl:=Option.some.inj (hg.symm.trans hg')
 obtain rfl:=Option.some.inj (hty.symm.trans ht')
 rw [hd] at hr
 rcases open_map ht hr with⟨_,hx⟩ | ⟨b,ens,clock,n,rfl,hcs,hb,_,F,hx⟩
 ·simp [Wx] at hx
 ·refine⟨?_,hnd⟩
  have hmap:Wx l=.map ((ens.toList.map (rg P k (elemAt (funcToken P) P W 0 (fun _=>true) true n e))).foldr DataW.insert []):=congrArg Prod.fst hx
  have hperm:(ens.toList.map (rg P k (elemAt (funcToken P) P W 0 (fun _=>true) true n e))).Perm (l.map fun x=>(Lit.string x.1,DataW.held x.2.1)):=by
   have h1:=sorted_perm (ens.toList.map (rg P k (elemAt (funcToken P) P W 0 (fun _=>true) true n e)))
   unfold Wx at hmap
   rw [← DataW.map.inj hmap] at h1
   exact h1.symm
  have hent : ∀ x ∈ ens.toList,∃ y ∈ l,x.key=.string ⟨y.1.toArray⟩∧x.val=.func (.func y.2.2) #[] #[]∧rg P k (elemAt (funcToken P) P W 0 (fun _=>true) true n e) x=(Lit.string y.1,DataW.held y.2.1):=by
   intro x hx
   have hm:=hperm.mem_iff.1 (List.mem_map.2 ⟨x,hx,rfl⟩)
   obtain⟨y,hy,hyx⟩:=List.mem_map.1 hm
   obtain⟨z,hz⟩:=F.reads x hx
   rw [rg_of hz] at hyx
   subst hyx
   refine⟨y,hy,?_,?_,by rw [rg_of hz]⟩
   ·have h1:=rd_key hz
    rw [keyOf_string hk] at h1
    unfold mapKey at h1
    rw [hk] at h1
    generalize x.key=kv at h1
    cases kv <;> simp at h1
    rename_i s
    obtain⟨_,h1⟩:=h1
    obtain⟨⟨sl⟩⟩:=s
    simp at h1
    rw [← h1]
   ·obtain⟨v,hv,hv2⟩:=rd_val hz
    have hyok:=List.all_eq_true.1 hok y hy
    simp only [Bool.and_eq_true,beq_iff_eq,Bool.not_eq_true'] at hyok
    obtain⟨v1,v2⟩:=v
    simp only at hv2
    unfold elemAt at hv
    split at hv
    ·cases fuel':n with
     | zero=>rw [fuel'] at hv; simp [DataW.trod] at hv
     | succ n'=>
      have hcells : ∃ v0,x.val.cells.toList=[v0]:=by
       have:=hv
       rw [fuel',DataW.trod_step] at this
       unfold DataW.trodStep at this
       rw [he] at this
       generalize x.val.cells.toList=cl at this
       match cl,this with
       | [v0],_=>exact⟨v0,rfl⟩
       | [],h=>simp at h
       | _::_::_,h=>simp at h
      obtain⟨v0,hv0⟩:=hcells
      rw [hv0] at hv
      obtain⟨y1,y2,y3⟩:=y
      simp only at hv2 hyok hv
      cases y2 with
      | nil=>simp at hyok
      | cons b0 r0=>
       rw [← hv2] at hv
       have hf:=func_of_trod he hyok.2 hv
       subst hf
       refine Ahb he ?_ hv0
       assumption
    ·cases hv
  let θ:Lit×DataW (List UInt8)→Aw×AV:=fun p=>match p with
   | (.string s,.held nm)=>(s,match l.find? (fun y=>y.2.1==nm) with
    | some y=>.func (.func y.2.2) [] []
    | none=>.und)
   | _=>([],.und)
  have hθ : ∀ y ∈ l,θ (Lit.string y.1,DataW.held y.2.1)=(y.1,.func (.func y.2.2) [] []):=by
   intro y hy
   show(y.1,_)=_
   cases hq:l.find? (fun z=>z.2.1==y.2.1) with
   | none=>
    rw [List.find?_eq_none] at hq
    exact absurd (by simp) (hq y hy)
   | some z=>
    have hz1:=List.mem_of_find?_eq_some hq
    have hz2:z.2.1=y.2.1:=by simpa using List.find?_some hq
    have k1:=List.all_eq_true.1 hok y hy
    have k2:=List.all_eq_true.1 hok z hz1
    simp only [Bool.and_eq_true,beq_iff_eq] at k1 k2
    rw [hz2,k1.2] at k2
    have:y.2.2=z.2.2:=by simpa using k2.2
    simp only [this]
  refine⟨b,ens,clock,ens.toList.map fun x=>θ (rg P k (elemAt (funcToken P) P W 0 (fun _=>true) true n e) x),?_,?_,hb,?_,by simp,fun i hi=>?_⟩
  ·have:=World.var?_cell hg hvar 0
   rw [Array.eq_one_of_toList hcs] at this
   simpa using this
  ·rcases Nat.lt_or_ge b W.heap.size with h | h
   ·exact h
   ·simp [Array.getElem?_eq_none h] at hb
  ·have:=hperm.map θ
   rw [List.map_map,List.map_map] at this
   refine this.trans (List.Perm.of_eq (List.map_congr_left fun y hy=>hθ y hy))
  ·have hi':i<ens.toList.length:=by simpa using hi
   have hm:ens.toList[i] ∈ ens.toList:=List.getElem_mem hi'
   obtain⟨y,hy,e1,e2,e3⟩:=hent _ hm
   have g1:ens.getD i default=ens.toList[i]:=by
    rw [← Sh,E2 (List.getElem?_eq_getElem hi')]
   have g2:(ens.toList.map fun x=>θ (rg P k (elemAt (funcToken P) P W 0 (fun _=>true) true n e) x)).getD i ([],.und)=(y.1,.func (.func y.2.2) [] []):=by
    rw [E2 (x:=θ (rg P k (elemAt (funcToken P) P W 0 (fun _=>true) true n e) ens.toList[i])) (by rw [List.getElem?_map,List.getElem?_eq_getElem hi',Option.map_some]),e3,hθ y hy]
   rw [g1,g2]
   exact⟨e1,_,rfl,e2⟩
end Go.Am
namespace Go.Am
open Go
set_option linter.unusedVariables false
set_option linter.unusedSectionVars false
set_option linter.unusedSimpArgs false
abbrev AV.q (ids:List Nat)(j g:Nat):AV:=.ptr (ix ids j) g 0 0
abbrev AV.I (n:Int):AV:=.int .i64 n
abbrev Sc.I (n:Int):Sc:=.int .i64 n
section
variable (P:Program) [GW P]
def Af0:Op→Bool
 | .move _=>true
 | .assign _=>true
 | .pick _ _ _=>true
 | .build _ _=>true
 | .nilCheck _=>true
 | .binOp _ _ _ _ _=>true
 | .unOp _ _ _=>true
 | .makeInterface _ _=>true
 | .makeFunc _ _ _=>true
 | .fieldAddr _ _ _=>true
 | .field _ _ _=>true
 | .typeAssert _ _ _ _=>true
 | .extract _ _=>true
 | _=>false
def Aip (xs:List (Option AO))(fr:Nat→AV)(j:Nat)(op:Op):Option (AV×Option (Nat×Nat×Nat)):=
 match op with
 | .load t a=>match ev fr a with
  | .ptr o g r c=>match ti P t,xs[j]? with
   | some T,some (some (.rows g' st rs))=>match rs[r]? with
    | some row=>(J1 row c T.size T.k.agg).map fun v=>(v,some (o,g,g'))
    | none=>none
   | _,_=>none
  | .cp row c=>match ti P t with
   | some T=>(J1 row c T.size T.k.agg).map fun v=>(v,none)
   | none=>none
  | _=>none
 | op=>if Af0 op then(Ej P fr hE op).map fun v=>(v,none) else none
def Om (n:Nat)(all:List Oper)(xs:List (Option AO)):List Oper→List Nat→List (Nat×AV)→Option (List (Nat×AV)×List (Nat×Nat)×List (Nat×Nat))
 | [],_,l=>some (l,[],[])
 | o::ops,hs,l=>if He n o.dst then match Fk all (A2 l) o,o.dst with
   | some true,some t=>match Aip P xs (A2 l) (hs.headD 0) o.op with
    | some (v,none)=>Om n all xs ops hs ((t,v)::l)
    | some (v,some (ob,g,g'))=>(Om n all xs ops hs.tail ((t,v)::l)).map fun r=>(r.1,(ob,g)::r.2.1,(hs.headD 0,g')::r.2.2)
    | none=>none
   | some false,some t=>Om n all xs ops hs ((t,.und)::l)
   | some false,none=>Om n all xs ops hs l
   | _,_=>none
  else none
def Af7 (ops:List Oper)(ks:List Nat)(l:List (Nat×AV)):Bool:=ops.all fun o=>match o.dst with
 | none=>true
 | some t=>ks.contains t || !(l.any fun p=>Nat.beq t p.1)
end
section
variable {P:Program} [GW P] {f:FuncId} {n:Nat} {d:FK} {β γ:Type} {Q:Spec β} {m:R β} {ds:List AD} {h:Ae} {u:AU} {k:List Item} {l:List (Nat×AV)} {F:γ→R β}
variable {all:List Oper} {h0:Ae} {ids:List Nat} {xs:List (Option AO)} {N:Nat}
theorem Aah {fr:Nat→AV}{j:Nat}{op:Op}{v:AV}{q:Option (Nat×Nat×Nat)}(hI:Ids h0 ids N)(hl:xs.length=N)(hx:Aip P xs fr j op=some (v,q))(hq : ∀ o g g',q=some (o,g,g')→o=ix ids j∧g=g'):Ej P fr (hp h0 ids xs) op=some v:=by
 unfold Aip at hx
 split at hx
 ·rename_i t a
  show Nv P _ t (ev fr a)=_
  split at hx
  ·rename_i o g r c ha
   rw [ha]
   split at hx
   ·rename_i T g' st rs hT hj
    split at hx
    ·rename_i row hr
     simp only [Option.map_eq_some_iff,Prod.mk.injEq] at hx
     obtain⟨v',h1,rfl,rfl⟩:=hx
     obtain⟨rfl,rfl⟩:=hq _ _ _ rfl
     exact A9 hI hl hj hr hT h1
    ·cases hx
   ·cases hx
  ·rename_i row c ha
   rw [ha]
   split at hx
   ·rename_i T hT
    simp only [Option.map_eq_some_iff,Prod.mk.injEq] at hx
    obtain⟨v',h1,rfl,rfl⟩:=hx
    exact Cg hT h1
   ·cases hx
  ·cases hx
 split at hx
 ·rename_i hp
  simp only [Option.map_eq_some_iff,Prod.mk.injEq] at hx
  obtain⟨v',h1,rfl,rfl⟩:=hx
  revert h1
  cases op <;> first
   | exact id
   | (simp [Af0] at hp)
 ·cases hx
theorem Xv {rest:List Oper} : ∀ {ops:List Oper} {hs:List Nat} {l l':List (Nat×AV)} {A B:List (Nat×Nat)},Om P n all xs ops hs l=some (l',A,B)→A=B.map (fun q=>(ix ids q.1,q.2))→Ids h0 ids N→xs.length=N →
  WO P f n d Q k all m rest (A2 l') ds (hp h0 ids xs) u→WO P f n d Q k all m (ops++rest) (A2 l) ds (hp h0 ids xs) u
 | [],hs,l,l',A,B,hx,hA,hI,hl,hk=>by
  simp only [Om,Option.some.injEq,Prod.mk.injEq] at hx
  obtain⟨rfl,rfl,rfl⟩:=hx
  exact hk
 | o::ops,hs,l,l',A,B,hx,hA,hI,hl,hk=>by
  unfold Om at hx
  split at hx
  ·rename_i hd
   split at hx
   ·rename_i t hw ht
    rw [ht] at hd
    have step : ∀ {v:AV},Ej P (A2 l) (hp h0 ids xs) o.op=some v→WO P f n d Q k all m (ops++rest) (A2 ((t,v)::l)) ds (hp h0 ids xs) u→WO P f n d Q k all m (o::ops++rest) (A2 l) ds (hp h0 ids xs) u:=by
     intro v hv hk'
     refine Pg (by rw [ht]; exact hd) hw fun hb K U hK hU=>Aa9 (t:=ds) hv (hK _ _ _ _ ?_)
     rw [ht,Ig]; exact hk'
    split at hx
    ·rename_i v hr
     exact step (Aah hI hl hr (fun _ _ _ h=>by cases h)) (Xv hx hA hI hl hk)
    ·rename_i v ob g g' hr
     simp only [Option.map_eq_some_iff,Prod.mk.injEq] at hx
     obtain⟨⟨l1,A1,B1⟩,hx,rfl,rfl,rfl⟩:=hx
     simp only [List.map_cons,List.cons.injEq,Prod.mk.injEq] at hA
     exact step (Aah hI hl hr (fun o2 g2 g2' h=>by cases h; exact hA.1)) (Xv hx hA.2 hI hl hk)
    ·cases hx
   ·rename_i t hw ht
    rw [ht] at hd
    exact Af1 (by rw [ht]; exact hd) hw (by rw [ht,Ig]; exact Xv hx hA hI hl hk)
   ·rename_i hw ht
    exact Af1 (by rw [ht]; rfl) hw (by rw [ht]; exact Xv hx hA hI hl hk)
   ·cases hx
  ·cases hx
theorem Wb {ops:List Oper}{ks:List Nat}{news:List (Nat×AV)} : ∀ {hs:List Nat} {l l':List (Nat×AV)} {A B:List (Nat×Nat)} {ops:List Oper},Om P n all xs ops hs l=some (l',A,B) → ∀ t,(∀ o ∈ ops,o.dst≠some t)→A2 l' t=A2 l t
 | hs,l,l',A,B,[],hx,t,ho=>by
  simp only [Om,Option.some.injEq,Prod.mk.injEq] at hx
  obtain⟨rfl,rfl,rfl⟩:=hx
  rfl
 | hs,l,l',A,B,o::ops,hx,t,ho=>by
  have ho' : ∀ o ∈ ops,o.dst≠some t:=fun q hq=>ho q (List.mem_cons_of_mem _ hq)
  have hne : ∀ {t':Nat} {v:AV},o.dst=some t'→A2 ((t',v)::l) t=A2 l t:=by
   intro t' v h
   have:t≠t':=fun e=>ho o (List.mem_cons_self ..) (e ▸ h)
   simp only [A2]
   have:Nat.beq t t'=false:=by
    cases hq:Nat.beq t t' with
    | false=>rfl
    | true=>exact absurd (Nat.eq_of_beq_eq_true hq) this
   rw [this]; rfl
  unfold Om at hx
  split at hx
  ·split at hx
   ·rename_i t' hw ht
    split at hx
    ·rw [Wb (ks:=ks) (news:=news) (ops:=ops) hx t ho',hne ht]
    ·simp only [Option.map_eq_some_iff,Prod.mk.injEq] at hx
     obtain⟨⟨l1,A1,B1⟩,hx,rfl,rfl,rfl⟩:=hx
     rw [Wb (ks:=ks) (news:=news) (ops:=ops) hx t ho',hne ht]
    ·cases hx
   ·rename_i t' hw ht
    rw [Wb (ks:=ks) (news:=news) (ops:=ops) hx t ho',hne ht]
   ·exact Wb (ks:=ks) (news:=news) (ops:=ops) hx t ho'
   ·cases hx
  ·cases hx
theorem Aoc {ops:List Oper}(K:Nat)(hs:List Nat)(news:List (Nat×AV))(hI:Ids h0 ids N)(hl:xs.length=N)
  (hc:(Om P n all xs (ops.take K) hs l).map (fun r=>(news.map (fun p=>A2 r.1 p.1),r.2.1,Af7 (ops.take K) (news.map (·.1)) l))=some (news.map (·.2),((Om P n all xs (ops.take K) hs l).elim [] fun r=>r.2.2.map fun q=>(ix ids q.1,q.2)),true))
  (hk:WO P f n d Q k all m (ops.drop K) (A2 (news++l)) ds (hp h0 ids xs) u):WO P f n d Q k all m ops (A2 l) ds (hp h0 ids xs) u:=by
 cases hr:Om P n all xs (ops.take K) hs l with
 | none=>rw [hr] at hc; cases hc
 | some r=>
  obtain⟨l',A,B⟩:=r
  rw [hr] at hc
  simp only [Option.map_some,Option.elim_some,Option.some.injEq,Prod.mk.injEq] at hc
  obtain⟨h1,h2,h3⟩:=hc
  have:=Xv (rest:=ops.drop K) hr h2 hI hl (f:=f) (d:=d) (Q:=Q) (k:=k) (m:=m) (ds:=ds) (u:=u) (fun hb i hi=>Q0 (fun t=>?_) (hk hb i hi))
  ·rwa [List.take_append_drop] at this
  ·
   have key : ∀ (ns:List (Nat×AV)),ns.map (fun p=>A2 l' p.1)=ns.map (·.2)→(∀ s,s ∈ ns.map (·.1)→s ∈ news.map (·.1))→(∀ s,s ∈ news.map (·.1)→s=t→s ∈ ns.map (·.1))→A2 (ns++l) t=.any∨A2 (ns++l) t=A2 l' t:=by
    intro ns
    induction ns with
    | nil=>
     intro _ _ hsub
     simp only [List.nil_append]
     by_cases hin:l.any (fun p=>Nat.beq t p.1)=true
     ·right
      symm
      refine Wb (ks:=[]) (news:=[]) (ops:=ops.take K) hr t fun o ho hd=>?_
      have:=List.all_eq_true.1 h3 o ho
      rw [hd] at this
      simp only [Bool.or_eq_true,Bool.not_eq_true',List.contains_iff_mem] at this
      rcases this with hc | hc
      ·exact absurd (hsub t hc rfl) (by simp)
      ·rw [hc] at hin; cases hin
     ·left
      have : ∀ l:List (Nat×AV),l.any (fun p=>Nat.beq t p.1)≠true→A2 l t=.any:=by
       intro l
       induction l with
       | nil=>intro _; rfl
       | cons p l ih=>
        intro hne
        simp only [List.any_cons] at hne
        simp only [A2]
        have h1:Nat.beq t p.1=false:=by cases hq:Nat.beq t p.1 with | false=>rfl | true=>exact absurd (by rw [hq]; rfl) hne
        rw [h1]
        exact ih (fun h=>hne (by rw [h,h1]; rfl))
      exact this l hin
    | cons p ns ih=>
     intro hv h4 h5
     simp only [List.map_cons,List.cons.injEq] at hv
     simp only [List.cons_append,A2]
     cases hq:Nat.beq t p.1 with
     | true=>
      right
      have:t=p.1:=Nat.eq_of_beq_eq_true hq
      subst this
      exact hv.1.symm
     | false=>
      refine ih hv.2 (fun s hs=>h4 s (by simp [hs])) (fun s hs e=>?_)
      rcases List.mem_cons.1 (h5 s hs e) with h | h
      ·subst e; rw [h] at hq; simp at hq
      ·exact h
   exact key news h1 (fun s hs=>hs) (fun s hs _=>hs)
theorem Ac {ops:List Oper}(K:Nat)(hs:List Nat)(news:List (Nat×AV))(hk:WO P f n d Q k all m (ops.drop K) (A2 (news++l)) ds (hp h0 ids xs) u)(hI:Ids h0 ids N:=by assumption)(hl:xs.length=N:=by rfl)
  (hc:(Om P n all xs (ops.take K) hs l).map (fun r=>(news.map (fun p=>A2 r.1 p.1),r.2.1,Af7 (ops.take K) (news.map (·.1)) l))=some (news.map (·.2),((Om P n all xs (ops.take K) hs l).elim [] fun r=>r.2.2.map fun q=>(ix ids q.1,q.2)),true):=by kernel_rfl):WO P f n d Q k all m ops (A2 l) ds (hp h0 ids xs) u:=Aoc K hs news hI hl hc hk
theorem A3 {ops:List Oper}{t:Nat}{b b':Bool}(hb:b=b')(ht:A2 l t=.bool b)(hk:WO P f n d Q k all m ops (A2 ((t,.bool b')::l)) ds h u):WO P f n d Q k all m ops (A2 l) ds h u:=by
 subst hb
 refine fun hV i hi=>Q0 (fun s=>?_) (hk hV i hi)
 right
 simp only [A2]
 cases hq:Nat.beq s t with
 | true=>rw [Nat.eq_of_beq_eq_true hq,ht]; rfl
 | false=>rfl
theorem Av {ops:List Oper}{fr:Nat→AV}(js:List Nat){zs ys:List (Option AO)}(hI:Ids h0 ids N)(hl:xs.length=N)(hk:Qm N js=true)(hz:js.length=zs.length)(hr:WO P f n d Q k all m ops fr ds (hp h0 ids ys) u)
  (e:Q7 js zs xs=ys:=by first | (simp only [List.set_cons_zero,List.set_cons_succ,List.cons_append,List.nil_append,List.replicate_succ,List.replicate_zero,Q7,Uw,T2,AV.cells,AV.I,AV.q]; rfl) | rfl):WO P f n d Q k all m ops fr ds (hp (hp h0 ids (Rr js xs)) (Wm ids js) zs) u:=Alt js ys hI hl hk hz e hr
theorem Bp {todo:List Item}{l':List (Nat×AV)}(hr:WR P f n d Q m todo (A2 l') ds h u)(hx:FrIs l l':=by repeat (first | exact .nil | refine .cons rfl ?_)):WR P f n d Q m todo (A2 l) ds h u:=D2 l' hx hr
theorem Be {ops:List Oper}{l':List (Nat×AV)}(hr:WO P f n d Q k all m ops (A2 l') ds h u)(hx:FrIs l l':=by repeat (first | exact .nil | refine .cons rfl ?_)):WO P f n d Q k all m ops (A2 l) ds h u:=Cb l' hx hr
theorem Aj {todo:List Item}{fr:Nat→AV}{ys:List (Option AO)}(hr:WR P f n d Q m todo fr ds (hp h0 ids ys) u)(e:xs=ys:=by first | (simp only [List.set_cons_zero,List.set_cons_succ,List.cons_append,List.nil_append,List.replicate_succ,List.replicate_zero,Q7,Uw,T2,AV.cells,AV.I,AV.q]; rfl) | rfl) :
  WR P f n d Q m todo fr ds (hp h0 ids xs) u:=e ▸ hr
end
theorem J {α:Sort _}{a:α}:a=a:=rfl
theorem FI {l l':List (Nat×AV)}(h:l'.map (fun p=>A2 l p.1)=l'.map (·.2)):FrIs l l':=by
 induction l' with
 | nil=>exact .nil
 | cons p r ih=>
  rw [List.map_cons,List.map_cons] at h
  injection h with h1 h2
  exact .cons h1 (ih h2)
end Go.Am
namespace Go.Am
open Go
set_option maxRecDepth 100000
set_option maxHeartbeats 4000000
set_option linter.unusedSimpArgs false
set_option linter.unusedVariables false
structure Span where
 From:Int
 To:Int
 deriving DecidableEq
def B5 (x:Span):List AV:=[(.int .i64 x.From),(.int .i64 x.To)]
theorem Afp (x:Span):Eg 2 (B5 x):=K0 rfl rfl
structure Volume where
 Name:Aw
 Closed:(List Span)
 deriving DecidableEq
def As (x:Volume):List AV:=[(.str x.Name),(.sl 2 (List.map B5 x.Closed))]
theorem Vk (x:Volume):Eg 2 (As x):=K0 rfl rfl
structure Sector where
 Name:Aw
 Names:(List Aw)
 Volumes:(List Int)
 Radar:Int
 Procedural:Int
 deriving DecidableEq
def A7 (x:Sector):List AV:=[(.str x.Name),(.sl 1 (List.map rS x.Names)),(.sl 1 (List.map (rI .i64) x.Volumes)),(.int .i64 x.Radar),(.int .i64 x.Procedural)]
theorem Sp (x:Sector):Eg 5 (A7 x):=K0 rfl rfl
structure Config where
 Name:Aw
 Names:(List Aw)
 Sectors:(List Int)
 deriving DecidableEq
def Bm (x:Config):List AV:=[(.str x.Name),(.sl 1 (List.map rS x.Names)),(.sl 1 (List.map (rI .i64) x.Sectors))]
theorem Yk (x:Config):Eg 3 (Bm x):=K0 rfl rfl
structure Segment where
 Name:Aw
 In:Aw
 Volume:Int
 Length:Int
 Open:(List Span)
 deriving DecidableEq
def Bg (x:Segment):List AV:=[(.str x.Name),(.str x.In),(.int .i64 x.Volume),(.int .i64 x.Length),(.sl 2 (List.map B5 x.Open))]
theorem W3 (x:Segment):Eg 5 (Bg x):=K0 rfl rfl
structure Route where
 Name:Aw
 A:Aw
 B:Aw
 From:Int
 To:Int
 Names:(List Aw)
 Segments:(List Int)
 deriving DecidableEq
def Bs (x:Route):List AV:=[(.str x.Name),(.str x.A),(.str x.B),(.int .i64 x.From),(.int .i64 x.To),(.sl 1 (List.map rS x.Names)),(.sl 1 (List.map (rI .i64) x.Segments))]
theorem Zp (x:Route):Eg 7 (Bs x):=K0 rfl rfl
structure Mode where
 Name:Aw
 Places:Int
 deriving DecidableEq
def Db (x:Mode):List AV:=[(.str x.Name),(.int .i64 x.Places)]
theorem Aft (x:Mode):Eg 2 (Db x):=K0 rfl rfl
structure Airport where
 Name:Aw
 Modes:(List Mode)
 deriving DecidableEq
def Bc (x:Airport):List AV:=[(.str x.Name),(.sl 2 (List.map Db x.Modes))]
theorem T3 (x:Airport):Eg 2 (Bc x):=K0 rfl rfl
structure Class where
 Name:Aw
 Slow:Int
 Fast:Int
 Places:Int
 deriving DecidableEq
def B7 (x:Class):List AV:=[(.str x.Name),(.int .i64 x.Slow),(.int .i64 x.Fast),(.int .i64 x.Places)]
theorem Zk (x:Class):Eg 4 (B7 x):=K0 rfl rfl
structure Rule where
 Kind:Int
 C:Aw
 A:Aw
 Class:Int
 Airport:Int
 N:Int
 Hours:Span
 deriving DecidableEq
def A5 (x:Rule):List AV:=[(.int .i64 x.Kind),(.str x.C),(.str x.A),(.int .i64 x.Class),(.int .i64 x.Airport),(.int .i64 x.N),(.int .i64 x.Hours.From),(.int .i64 x.Hours.To)]
theorem R3 (x:Rule):Eg 8 (A5 x):=K0 rfl rfl
structure Airspace where
 Volumes:(List Volume)
 Sectors:(List Sector)
 Configs:(List Config)
 Segments:(List Segment)
 Routes:(List Route)
 Airports:(List Airport)
 Classes:(List Class)
 Rules:(List Rule)
 deriving DecidableEq
def Ay (x:Airspace):List AV:=[(.sl 2 (List.map As x.Volumes)),(.sl 5 (List.map A7 x.Sectors)),(.sl 3 (List.map Bm x.Configs)),(.sl 5 (List.map Bg x.Segments)),(.sl 7 (List.map Bs x.Routes)),(.sl 2 (List.map Bc x.Airports)),(.sl 4 (List.map B7 x.Classes)),(.sl 8 (List.map A5 x.Rules))]
structure Token where
 Kind:Int
 Text:Aw
 N:Int
 At:Int
 deriving DecidableEq
def Ab (x:Token):List AV:=[(.int .i64 x.Kind),(.str x.Text),(.int .i64 x.N),(.int .i64 x.At)]
theorem Ol (x:Token):Eg 4 (Ab x):=K0 rfl rfl
structure T63 where
 fAt:Int
 fE:Int
 deriving DecidableEq
structure T67 where
 fL:(List Token)
 fEnd:Int
 fA:Airspace
 deriving DecidableEq
def An9 (x:T67):List AV:=[(.sl 4 (List.map Ab x.fL)),(.int .i64 x.fEnd),(.sl 2 (List.map As x.fA.Volumes)),(.sl 5 (List.map A7 x.fA.Sectors)),(.sl 3 (List.map Bm x.fA.Configs)),(.sl 5 (List.map Bg x.fA.Segments)),(.sl 7 (List.map Bs x.fA.Routes)),(.sl 2 (List.map Bc x.fA.Airports)),(.sl 4 (List.map B7 x.fA.Classes)),(.sl 8 (List.map A5 x.fA.Rules))]
structure T69 where
 L:(List Token)
 N:Int
 End:Int
 E:Int
 At:Int
 deriving DecidableEq
structure T88 where
 fL:(List Token)
 fBad:Bool
 deriving DecidableEq
structure T119 where
 fSrc:Aw
 fAt:Int
 fL:(List Token)
 deriving DecidableEq
def M9 (x:T119):List AV:=[(.str x.fSrc),(.int .i64 x.fAt),(.sl 4 (List.map Ab x.fL))]
end Go.Am
namespace Go.Am
open Go
set_option maxRecDepth 100000
set_option maxHeartbeats 4000000
set_option linter.unusedSimpArgs false
set_option linter.unusedVariables false
noncomputable section
def strings_IndexByte (s:Aw)(c:Int):R Int:=.ok (Lib.indexByte s c.toNat.toUInt8)
def Ki (c:Int):R Int:=
 if(((decide (c≥97))&&(decide (c≤122)))||((decide (c≥65))&&(decide (c≤90)))) then
(.ok 2)
else
(if((decide (c≥48))&&(decide (c≤57))) then
(.ok 3)
else
(if(c==95) then
(.ok 5)
else
(if((((c==32)||(c==9))||(c==10))||(c==13)) then
(.ok 1)
else
((strings_IndexByte [123,125,40,41,59,44,61,35,47,60,33,45,46] c).bind fun r=>
 if r≥0 then
(.ok 4)
else
(.ok 0)))))
def Nu (s:T119):R Unit:=
 .pan ⟨113,.int .i64 s.fAt⟩
def Fw (v:Int)(j:Nat)(a:Int):R (Unit ⊕ Int):=
 if(v==a) then
(.ok (.inr ((j:Int))))
else
(.ok (.inl ()))
def Od (s:List Int)(v:Int):R Int:=
 (each (fun j a=>fun _=>Fw v j a) 0 s ()).bind (De (fun _=>.ok (-1)) (fun r=>.ok r))
def Kv (s:List Int)(v:Int):R Bool:=
 (Od s v).bind fun r=>
 .ok (decide (r≥0))
def Lh (s:T119)(some:List Int)(n:Int):R (Int ⊕ Int):=
 (if(decide (n<(s.fSrc.length:Int))) then(Ed s.fSrc n).bind fun a=>
 (Ki (a.toNat:Int)).bind fun r=>
 (Kv some r).bind fun r1=>
 R.ok r1 else R.ok false).bind (fun(b:Bool)=>if b then
(.ok (.inl (IntKind.wrap .i64 (n+1))))
else
(.ok (.inr (n))))
def Lm (s:T119)(n1:Int):R Aw:=
 if(0:Int)≤s.fAt∧s.fAt≤n1∧n1≤(s.fSrc.length:Int) then
 .ok (P5 s.fSrc s.fAt n1) else .bad
def Iu (s:T119)(some:List Int):R Aw:=
 (loop (fun n=>Lh s some n) s.fAt).bind (fun n1=>Lm s n1)
def O0 (a1:UInt8):R (Unit ⊕ Bool):=
 (Ki (a1.toNat:Int)).bind fun c=>
 if(((c != 2)&&(c != 3))&&(c != 5)) then
(.ok (.inr (false)))
else
(.ok (.inl ()))
def Ru (s:Aw):R Bool:=
 (if((s==[])||(decide ((s.length:Int) > 32))) then R.ok true else(Ed s 0).bind fun a=>
 (Ki (a.toNat:Int)).bind fun r=>
 R.ok (r != 2)).bind (fun(b:Bool)=>if b then
(.ok false)
else
(if s.length≤Ek then
((each (fun _ a1=>fun _=>O0 a1) 0 s ()).bind (De (fun _=>.ok true) (fun r=>.ok r))) else .bad))
def Qv (t:Token):R Bool:=
 if(t.Kind==1) then
((Ru t.Text).bind fun r=>
 .ok (r&&(t.N==0)))
else
(if(t.Kind==2) then
(.ok (((t.Text==[])&&(decide (t.N≥0)))&&(decide (t.N≤1099511627776))))
else
(if(t.Kind==3) then
((if((t.Text.length:Int)==1) then(Ed t.Text 0).bind fun a=>
 (Ki (a.toNat:Int)).bind fun r1=>
 R.ok (r1==4) else R.ok false).bind (fun(b:Bool)=>.ok (b&&(t.N==0))))
else
(.ok false)))
def N7 (s:Aw):R (Int×Bool):=if s.length≤281474976710656 then(match Lib.atoiAll s with
 | .ok v=>.ok (v,false)
 | Lib.NumEnd.syntax=>.ok (0,true)
 | .range=>.ok (Lib.atoiSat s,true)) else .bad
def strconv_Itoa (n:Int):R Aw:=if -9223372036854775808≤n∧n≤9223372036854775807 then .ok (Lib.itoa n) else .bad
def G6 (s:Aw)(vprefix:Aw):R Bool:=
 (if(decide ((s.length:Int)≥(vprefix.length:Int))) then if(0:Int)≤(vprefix.length:Int)∧(vprefix.length:Int)≤(s.length:Int) then
 R.ok ((s.take (Int.toNat (vprefix.length:Int)))==vprefix) else .bad else R.ok false).bind (fun(b:Bool)=>.ok b)
def Mb (s:Aw)(vprefix:Aw):R Bool:=
 (G6 s vprefix).bind fun r=>
 .ok r
def Kx (s0_src:Aw)(s0_at:Int)(l:List Token):R Int:=
 (Iu ({ fSrc:=s0_src,fAt:=s0_at,fL:=l }:T119) [1]).bind fun r=>
 .ok (IntKind.wrap .i64 (s0_at+(r.length:Int)))
def Fy (text:Aw)(t:Token)(s0_src:Aw)(s0_at:Int)(l:List Token):R (List Token):=
 (Qv t).bind fun r=>
 if r then
(if(l.length+[({ Kind:=t.Kind,Text:=t.Text,N:=t.N,At:=s0_at }:Token)].length) * 40≤Ek then
 .ok (l++[({ Kind:=t.Kind,Text:=t.Text,N:=t.N,At:=s0_at }:Token)]) else .bad)
else
(.pan ⟨113,.int .i64 s0_at⟩)
def Lr (s0_src:Aw)(s0_at:Int)(l:List Token):R (Int×(List Token)):=
 (Iu ({ fSrc:=s0_src,fAt:=s0_at,fL:=l }:T119) [2,3,5]).bind fun t=>
 (Fy t ({ Kind:=1,Text:=t,N:=0,At:=0 }:Token) s0_src s0_at l).bind fun r=>
 .ok ((IntKind.wrap .i64 (s0_at+(t.length:Int))),r)
def J4 (s0_src:Aw)(s0_at:Int)(l:List Token):R (Int×(List Token)):=
 (Iu ({ fSrc:=s0_src,fAt:=s0_at,fL:=l }:T119) [3]).bind fun t=>
 (N7 t).bind fun r=>
 (if r.2 then R.ok true else(strconv_Itoa r.1).bind fun r1=>
 R.ok (!(r1==t))).bind (fun(b:Bool)=>if b then
(.pan ⟨113,.int .i64 s0_at⟩)
else
((Fy t ({ Kind:=2,Text:=[],N:=r.1,At:=0 }:Token) s0_src s0_at l).bind fun r2=>
 .ok ((IntKind.wrap .i64 (s0_at+(t.length:Int))),r2)))
def Lg (s0_src:Aw)(s0_at:Int)(l:List Token):R (Int×(List Token)):=
 if(0:Int)≤s0_at∧s0_at≤(s0_src.length:Int) then
 (Mb (s0_src.drop (Int.toNat s0_at)) [47,47]).bind fun r=>
 if r then
(if(0:Int)≤s0_at∧s0_at≤(s0_src.length:Int) then
 (strings_IndexByte (s0_src.drop (Int.toNat s0_at)) 10).bind fun n=>
 if n≥0 then
(.ok ((IntKind.wrap .i64 (s0_at+n)),l))
else
(.ok ((s0_src.length:Int),l)) else .bad)
else
(if(0:Int)≤s0_at∧s0_at≤(IntKind.wrap .i64 (s0_at+1))∧(IntKind.wrap .i64 (s0_at+1))≤(s0_src.length:Int) then
 (Fy (P5 s0_src s0_at (IntKind.wrap .i64 (s0_at+1))) ({ Kind:=3,Text:=(P5 s0_src s0_at (IntKind.wrap .i64 (s0_at+1))),N:=0,At:=0 }:Token) s0_src s0_at l).bind fun r1=>
 .ok ((IntKind.wrap .i64 (s0_at+((P5 s0_src s0_at (IntKind.wrap .i64 (s0_at+1))).length:Int))),r1) else .bad) else .bad
def Ir (n:Int):R Int:=
 .ok n
def Mi (src:Aw)(fAt:Int)(l:List Token):R ((Int×(List Token)) ⊕ (Int×(List Token))):=
 if fAt<(src.length:Int) then
((Ed src fAt).bind fun a=>
 (Ki (a.toNat:Int)).bind fun r=>
 if r=0 then
((Nu ({ fSrc:=src,fAt:=fAt,fL:=l }:T119)).bind fun _=>
 .ok (.inl (fAt,l)))
else
(if r=1 then
((Kx src fAt l).bind fun r2=>
 .ok (.inl (r2,l)))
else
(if r=2 then
((Lr src fAt l).bind fun r3=>
 .ok (.inl (r3.1,r3.2)))
else
(if r=3 then
((J4 src fAt l).bind fun r4=>
 .ok (.inl (r4.1,r4.2)))
else
(if r=4 then
((Lg src fAt l).bind fun r5=>
 .ok (.inl (r5.1,r5.2)))
else
(if r=5 then
((Nu ({ fSrc:=src,fAt:=fAt,fL:=l }:T119)).bind fun _=>
 .ok (.inl (fAt,l)))
else
(.bad)))))))
else
(.ok (.inr ((fAt,l))))
def Ue (fAt3:Int)(l1:List Token):R ((List Token)×Int×Int):=
 .ok (l1,0,0)
def Vm (src:Aw):R ((List Token)×Int×Int):=
 if(src.length:Int) > 65536 then
(.ok ([],0,2))
else
((loop (Cy fun fAt l=>Mi src fAt l) (0,[])).bind (Cy fun fAt3 l1=>Ue fAt3 l1))
def Vy (src:Aw):R ((List Token)×Int×Int):=
 (Vm src).catch' (Nd 113 .i64 (fun n=>(Ir n).bind fun p=>.ok ([],p,70)) (fun _=>.bad))
def Ll (r:T67)(e:Int):R Unit:=
 if(r.fL.length:Int) > 0 then
((Ed r.fL 0).bind fun a=>
 .pan ⟨64,.two .i64 .i64 a.At e⟩)
else
(.pan ⟨64,.two .i64 .i64 r.fEnd e⟩)
def Bj (e:Int)(s_l:List Token)(s_end:Int):R Unit:=
 if(s_l.length:Int) > 0 then
((Ed s_l 0).bind fun a=>
 .pan ⟨64,.two .i64 .i64 a.At e⟩)
else
(.pan ⟨64,.two .i64 .i64 s_end e⟩)
def Je (a:Token):R Bool:=
 .ok true
def Eh (s_l:List Token):R Token:=
 (Ed s_l 0).bind fun a2=>
 if(0:Int)≤1∧1≤(s_l.length:Int) then
 .ok a2 else .bad
def L4 (kind:Int)(s_l:List Token)(s_end:Int):R Token:=
 (if((s_l.length:Int)==0) then R.ok true else(Ed s_l 0).bind fun a=>
 R.ok (a.Kind != kind)).bind (fun(b:Bool)=>(if b then R.ok true else(Ed s_l 0).bind fun a1=>
 (Je a1).bind fun r=>
 R.ok (!r)).bind (fun(b1:Bool)=>if b1 then
((Bj 80 s_l s_end).bind fun _=>
 Eh s_l)
else
(Eh s_l)))
def B0 (s_l:List Token)(s_end:Int):R Aw:=
 (L4 1 s_l s_end).bind fun r=>
 .ok r.Text
def Jl (t:Token)(b:Aw):R Bool:=
 .ok (t.Text==b)
def D6 (s0_l:List Token):R Token:=
 (Ed s0_l 0).bind fun a2=>
 if(0:Int)≤1∧1≤(s0_l.length:Int) then
 .ok a2 else .bad
def Kr (kind:Int)(s0_l:List Token)(s0_end:Int)(s1:Aw):R Token:=
 (if((s0_l.length:Int)==0) then R.ok true else(Ed s0_l 0).bind fun a=>
 R.ok (a.Kind != kind)).bind (fun(b:Bool)=>(if b then R.ok true else(Ed s0_l 0).bind fun a1=>
 (Jl a1 s1).bind fun r=>
 R.ok (!r)).bind (fun(b1:Bool)=>if b1 then
((Bj 80 s0_l s0_end).bind fun _=>
 D6 s0_l)
else
(D6 s0_l)))
def Ct (text:Aw)(s_l:List Token)(s_end:Int):R Unit:=
 (Kr 1 s_l s_end text).bind fun r=>
 .ok ()
def Gf (t:Token)(b:Int)(c:Int):R Bool:=
 .ok ((decide (t.N≥b))&&(decide (t.N≤c)))
def D5 (s0_l:List Token):R Token:=
 (Ed s0_l 0).bind fun a2=>
 if(0:Int)≤1∧1≤(s0_l.length:Int) then
 .ok a2 else .bad
def Ku (kind:Int)(s0_l:List Token)(s0_end:Int)(s1:Int)(s2:Int):R Token:=
 (if((s0_l.length:Int)==0) then R.ok true else(Ed s0_l 0).bind fun a=>
 R.ok (a.Kind != kind)).bind (fun(b:Bool)=>(if b then R.ok true else(Ed s0_l 0).bind fun a1=>
 (Gf a1 s1 s2).bind fun r=>
 R.ok (!r)).bind (fun(b1:Bool)=>if b1 then
((Bj 80 s0_l s0_end).bind fun _=>
 D5 s0_l)
else
(D5 s0_l)))
def C7 (least:Int)(most:Int)(s_l:List Token)(s_end:Int):R Int:=
 (Ku 2 s_l s_end least most).bind fun r=>
 .ok r.N
def Fc (s1_l:List Token)(s1_end:Int):R Mode:=
 (Ct [109,111,100,101] s1_l s1_end).bind fun _=>
 (B0 (s1_l.drop 1) s1_end).bind fun r1=>
 (C7 0 64 ((s1_l.drop 1).drop 1) s1_end).bind fun r2=>
 .ok ({ Name:=r1,Places:=r2 }:Mode)
def E5 (kind:Int)(text:Aw)(s_l:List Token)(s_end:Int):R Bool:=
 (if(decide ((s_l.length:Int) > 0)) then(Ed s_l 0).bind fun a=>
 R.ok (a.Kind==kind) else R.ok false).bind (fun(b:Bool)=>(if b then(Ed s_l 0).bind fun a1=>
 R.ok (a1.Text==text) else R.ok false).bind (fun(b1:Bool)=>.ok b1))
def Jj (t:Token)(b:Aw):R Bool:=
 .ok (t.Text==b)
def D8 (s0_l:List Token):R Token:=
 (Ed s0_l 0).bind fun a2=>
 if(0:Int)≤1∧1≤(s0_l.length:Int) then
 .ok a2 else .bad
def Kp (kind:Int)(s0_l:List Token)(s0_end:Int)(s1:Aw):R Token:=
 (if((s0_l.length:Int)==0) then R.ok true else(Ed s0_l 0).bind fun a=>
 R.ok (a.Kind != kind)).bind (fun(b:Bool)=>(if b then R.ok true else(Ed s0_l 0).bind fun a1=>
 (Jj a1 s1).bind fun r=>
 R.ok (!r)).bind (fun(b1:Bool)=>if b1 then
((Bj 80 s0_l s0_end).bind fun _=>
 D8 s0_l)
else
(D8 s0_l)))
def B6 (text:Aw)(s_l:List Token)(s_end:Int):R Unit:=
 (Kp 3 s_l s_end text).bind fun r=>
 .ok ()
def E8 (s:Aw)(s1_l:List Token)(s1_end:Int):R Class:=
 (Ct [115,108,111,119] s1_l s1_end).bind fun _=>
 (C7 1 64 (s1_l.drop 1) s1_end).bind fun r1=>
 (Ct [102,97,115,116] ((s1_l.drop 1).drop 1) s1_end).bind fun _=>
 (C7 r1 64 (((s1_l.drop 1).drop 1).drop 1) s1_end).bind fun r3=>
 (Ct [112,108,97,99,101,115] ((((s1_l.drop 1).drop 1).drop 1).drop 1) s1_end).bind fun _=>
 (C7 1 8 (((((s1_l.drop 1).drop 1).drop 1).drop 1).drop 1) s1_end).bind fun r5=>
 .ok ({ Name:=s,Slow:=r1,Fast:=r3,Places:=r5 }:Class)
def Gy (s_l:List Token)(s_end:Int):R Span:=
 (C7 0 1439 s_l s_end).bind fun r=>
 (Ct [116,111] (s_l.drop 1) s_end).bind fun _=>
 (C7 (IntKind.wrap .i64 (r+1)) 1440 ((s_l.drop 1).drop 1) s_end).bind fun r2=>
 .ok ({ From:=r,To:=r2 }:Span)
def Kd (s0:Rule)(s2_l:List Token)(s2_end:Int):R Rule:=
 (Ct [97,116] s2_l s2_end).bind fun _=>
 (B0 (s2_l.drop 1) s2_end).bind fun r1=>
 (Gy ((s2_l.drop 1).drop 1) s2_end).bind fun r2=>
 .ok ({ Kind:=s0.Kind,C:=s0.C,A:=r1,Class:=s0.Class,Airport:=s0.Airport,N:=s0.N,Hours:=r2 }:Rule)
def Fh (class1:Aw)(s0:Int)(s3_l:List Token)(s3_end:Int):R Rule:=
 (Kd ({ Kind:=s0,C:=class1,A:=[],Class:=0,Airport:=0,N:=0,Hours:=({ From:=0,To:=0 }:Span) }:Rule) s3_l s3_end).bind fun r=>
 .ok r
def Mr (a:Rule):R Unit:=
 .ok ()
def Gd (class1:Aw)(s0:Int):R Unit:=
 (Mr ({ Kind:=s0,C:=class1,A:=[],Class:=0,Airport:=0,N:=0,Hours:=({ From:=0,To:=0 }:Span) }:Rule)).bind fun _=>
 .ok ()
def F3 (t:Token):R Bool:=
 .ok ((decide (t.N≤60))&&((Int.tmod t.N 10)==0))
def D7 (s_l:List Token):R Token:=
 (Ed s_l 0).bind fun a2=>
 if(0:Int)≤1∧1≤(s_l.length:Int) then
 .ok a2 else .bad
def Gc (kind:Int)(s_l:List Token)(s_end:Int):R Token:=
 (if((s_l.length:Int)==0) then R.ok true else(Ed s_l 0).bind fun a=>
 R.ok (a.Kind != kind)).bind (fun(b:Bool)=>(if b then R.ok true else(Ed s_l 0).bind fun a1=>
 (F3 a1).bind fun r=>
 R.ok (!r)).bind (fun(b1:Bool)=>if b1 then
((Bj 80 s_l s_end).bind fun _=>
 D7 s_l)
else
(D7 s_l)))
def Jr (s0:Rule)(s2_l:List Token)(s2_end:Int):R Rule:=
 (Gc 2 s2_l s2_end).bind fun r=>
 .ok ({ Kind:=s0.Kind,C:=s0.C,A:=s0.A,Class:=s0.Class,Airport:=s0.Airport,N:=r.N,Hours:=s0.Hours }:Rule)
def Fi (class1:Aw)(s0:Int)(s3_l:List Token)(s3_end:Int):R Rule:=
 (Jr ({ Kind:=s0,C:=class1,A:=[],Class:=0,Airport:=0,N:=0,Hours:=({ From:=0,To:=0 }:Span) }:Rule) s3_l s3_end).bind fun r=>
 .ok r
def Js (s0:Rule)(s2_l:List Token)(s2_end:Int):R Rule:=
 (C7 1 8 s2_l s2_end).bind fun r=>
 .ok ({ Kind:=s0.Kind,C:=s0.C,A:=s0.A,Class:=s0.Class,Airport:=s0.Airport,N:=r,Hours:=s0.Hours }:Rule)
def Fe (class1:Aw)(s0:Int)(s3_l:List Token)(s3_end:Int):R Rule:=
 (Js ({ Kind:=s0,C:=class1,A:=[],Class:=0,Airport:=0,N:=0,Hours:=({ From:=0,To:=0 }:Span) }:Rule) s3_l s3_end).bind fun r=>
 .ok r
def Gj (s0_end:Int)(fL:List Token)(l1:List Mode)(r:Mode):R (((List Token)×(List Mode)) ⊕ ((List Mode)×(List Token))):=
 (B6 [44] (((fL.drop 1).drop 1).drop 1) s0_end).bind fun _=>
 .ok (.inl (((((fL.drop 1).drop 1).drop 1).drop 1),(l1++[r])))
def Gm (most:Int)(s0_end:Int)(fL:List Token)(l1:List Mode):R (((List Token)×(List Mode)) ⊕ ((List Mode)×(List Token))):=
 (Fc fL s0_end).bind fun r=>
 if(l1.length+[r].length) * 24≤Ek then
 (E5 3 [44] (((fL.drop 1).drop 1).drop 1) s0_end).bind fun r1=>
 if r1 then
(if(((l1++[r]).length:Int)==most) then
((Bj 2 (((fL.drop 1).drop 1).drop 1) s0_end).bind fun _=>
 Gj s0_end fL l1 r)
else
(Gj s0_end fL l1 r))
else
(.ok (.inr (((l1++[r]),(((fL.drop 1).drop 1).drop 1))))) else .bad
def Gg (most:Int)(s0_l:List Token)(s0_end:Int)(l:List Volume):R ((List Mode)×(List Token)):=
 (loop (Cy fun fL l1=>Gm most s0_end fL l1) (s0_l,[])).bind (fun r=>.ok r)
def Et (s:Aw)(s1_l:List Token)(s1_end:Int)(l:List Volume):R (Airport×(List Token)):=
 (Gg 16 s1_l s1_end l).bind fun r=>
 .ok (({ Name:=s,Modes:=r.1 }:Airport),r.2)
def Fo (s0_end:Int)(fL:List Token)(l1:List Aw)(r:Aw):R (((List Token)×(List Aw)) ⊕ ((List Aw)×(List Token))):=
 (B6 [44] (fL.drop 1) s0_end).bind fun _=>
 .ok (.inl (((fL.drop 1).drop 1),(l1++[r])))
def Fm (most:Int)(s0_end:Int)(fL:List Token)(l1:List Aw):R (((List Token)×(List Aw)) ⊕ ((List Aw)×(List Token))):=
 (B0 fL s0_end).bind fun r=>
 if(l1.length+[r].length) * 16≤Ek then
 (E5 3 [44] (fL.drop 1) s0_end).bind fun r1=>
 if r1 then
(if(((l1++[r]).length:Int)==most) then
((Bj 2 (fL.drop 1) s0_end).bind fun _=>
 Fo s0_end fL l1 r)
else
(Fo s0_end fL l1 r))
else
(.ok (.inr (((l1++[r]),(fL.drop 1))))) else .bad
def D1 (most:Int)(s0_l:List Token)(s0_end:Int)(l:List Volume):R ((List Aw)×(List Token)):=
 (loop (Cy fun fL l1=>Fm most s0_end fL l1) (s0_l,[])).bind (fun r=>.ok r)
def Ep (s:Aw)(s1_l:List Token)(s1_end:Int)(l:List Volume):R (Config×(List Token)):=
 (B6 [61] s1_l s1_end).bind fun _=>
 (D1 64 (s1_l.drop 1) s1_end l).bind fun r1=>
 .ok (({ Name:=s,Names:=r1.1,Sectors:=[] }:Config),r1.2)
def Er (s:Aw)(s1_l:List Token)(s1_end:Int)(l:List Volume):R (Route×(List Token)):=
 (Ct [102,114,111,109] s1_l s1_end).bind fun _=>
 (B0 (s1_l.drop 1) s1_end).bind fun r1=>
 (Ct [116,111] ((s1_l.drop 1).drop 1) s1_end).bind fun _=>
 (B0 (((s1_l.drop 1).drop 1).drop 1) s1_end).bind fun r3=>
 (Ct [118,105,97] ((((s1_l.drop 1).drop 1).drop 1).drop 1) s1_end).bind fun _=>
 (D1 8 (((((s1_l.drop 1).drop 1).drop 1).drop 1).drop 1) s1_end l).bind fun r5=>
 .ok (({ Name:=s,A:=r1,B:=r3,From:=0,To:=0,Names:=r5.1,Segments:=[] }:Route),r5.2)
def Ev (s:Aw)(s1_l:List Token)(s1_end:Int)(l:List Volume):R (Sector×(List Token)):=
 (B6 [61] s1_l s1_end).bind fun _=>
 (D1 64 (s1_l.drop 1) s1_end l).bind fun r1=>
 (Ct [114,97,100,97,114] r1.2 s1_end).bind fun _=>
 (C7 0 64 (r1.2.drop 1) s1_end).bind fun r3=>
 (Ct [112,114,111,99,101,100,117,114,97,108] ((r1.2.drop 1).drop 1) s1_end).bind fun _=>
 (C7 0 r3 (((r1.2.drop 1).drop 1).drop 1) s1_end).bind fun r5=>
 .ok (({ Name:=s,Names:=r1.1,Volumes:=[],Radar:=r3,Procedural:=r5 }:Sector),((((r1.2.drop 1).drop 1).drop 1).drop 1))
def Fv (s0_end:Int)(fL:List Token)(l1:List Span)(r:Span):R (((List Token)×(List Span)) ⊕ ((List Span)×(List Token))):=
 (B6 [44] (((fL.drop 1).drop 1).drop 1) s0_end).bind fun _=>
 .ok (.inl (((((fL.drop 1).drop 1).drop 1).drop 1),(l1++[r])))
def Fs (most:Int)(s0_end:Int)(fL:List Token)(l1:List Span):R (((List Token)×(List Span)) ⊕ ((List Span)×(List Token))):=
 (Gy fL s0_end).bind fun r=>
 if(l1.length+[r].length) * 16≤Ek then
 (E5 3 [44] (((fL.drop 1).drop 1).drop 1) s0_end).bind fun r1=>
 if r1 then
(if(((l1++[r]).length:Int)==most) then
((Bj 2 (((fL.drop 1).drop 1).drop 1) s0_end).bind fun _=>
 Fv s0_end fL l1 r)
else
(Fv s0_end fL l1 r))
else
(.ok (.inr (((l1++[r]),(((fL.drop 1).drop 1).drop 1))))) else .bad
def Em (most:Int)(s0_l:List Token)(s0_end:Int)(l:List Volume):R ((List Span)×(List Token)):=
 (loop (Cy fun fL l1=>Fs most s0_end fL l1) (s0_l,[])).bind (fun r=>.ok r)
def F6 (text:Aw)(s0_l:List Token)(s0_end:Int)(l:List Volume):R ((List Span)×(List Token)):=
 (E5 1 text s0_l s0_end).bind fun r=>
 if r then
((Ct text s0_l s0_end).bind fun _=>
 (Em 16 (s0_l.drop 1) s0_end l).bind fun r2=>
 .ok (r2.1,r2.2))
else
(.ok ([],s0_l))
def Es (s:Aw)(s1_l:List Token)(s1_end:Int)(l:List Volume):R (Segment×(List Token)):=
 (Ct [105,110] s1_l s1_end).bind fun _=>
 (B0 (s1_l.drop 1) s1_end).bind fun r1=>
 (Ct [108,101,110,103,116,104] ((s1_l.drop 1).drop 1) s1_end).bind fun _=>
 (C7 1 4096 (((s1_l.drop 1).drop 1).drop 1) s1_end).bind fun r3=>
 (F6 [111,112,101,110] ((((s1_l.drop 1).drop 1).drop 1).drop 1) s1_end l).bind fun r4=>
 .ok (({ Name:=s,In:=r1,Volume:=0,Length:=r3,Open:=r4.1 }:Segment),r4.2)
def Eu (s:Aw)(s1_l:List Token)(s1_end:Int)(l:List Volume):R (Volume×(List Token)):=
 (F6 [99,108,111,115,101,100] s1_l s1_end l).bind fun r=>
 .ok (({ Name:=s,Closed:=r.1 }:Volume),r.2)
def G7 (s0_l:List Token)(s0_end:Int)(l:List Volume):R ((List Token)×(List Volume)):=
 if(0:Int)≤1∧1≤(s0_l.length:Int) then
 (B0 (s0_l.drop 1) s0_end).bind fun r1=>
 (Eu r1 ((s0_l.drop 1).drop 1) s0_end l).bind fun r2=>
 (B6 [59] r2.2 s0_end).bind fun _=>
 if(l.length+[r2.1].length) * 40≤Ek then
 .ok ((r2.2.drop 1),(l++[r2.1])) else .bad else .bad
def Gs (most:Int)(s0_l:List Token)(s0_end:Int)(l:List Volume):R ((List Token)×(List Volume)):=
 if((l.length:Int)==most) then
((Bj 2 s0_l s0_end).bind fun _=>
 G7 s0_l s0_end l)
else
(G7 s0_l s0_end l)
def H4 (s0_l:List Token)(s0_end:Int)(l:List Volume):R ((List Token)×(List Volume)):=
 (Gs 64 s0_l s0_end l).bind fun r=>
 .ok (r.1,r.2)
def G1 (s0_l:List Token)(s0_end:Int)(l:List Volume)(l1:List Sector):R ((List Token)×(List Sector)):=
 if(0:Int)≤1∧1≤(s0_l.length:Int) then
 (B0 (s0_l.drop 1) s0_end).bind fun r1=>
 (Ev r1 ((s0_l.drop 1).drop 1) s0_end l).bind fun r2=>
 (B6 [59] r2.2 s0_end).bind fun _=>
 if(l1.length+[r2.1].length) * 80≤Ek then
 .ok ((r2.2.drop 1),(l1++[r2.1])) else .bad else .bad
def Gq (most:Int)(s0_l:List Token)(s0_end:Int)(l:List Volume)(l1:List Sector):R ((List Token)×(List Sector)):=
 if((l1.length:Int)==most) then
((Bj 2 s0_l s0_end).bind fun _=>
 G1 s0_l s0_end l l1)
else
(G1 s0_l s0_end l l1)
def H5 (s0_l:List Token)(s0_end:Int)(l:List Volume)(l1:List Sector):R ((List Token)×(List Sector)):=
 (Gq 64 s0_l s0_end l l1).bind fun r=>
 .ok (r.1,r.2)
def G2 (s0_l:List Token)(s0_end:Int)(l:List Volume)(l1:List Config):R ((List Token)×(List Config)):=
 if(0:Int)≤1∧1≤(s0_l.length:Int) then
 (B0 (s0_l.drop 1) s0_end).bind fun r1=>
 (Ep r1 ((s0_l.drop 1).drop 1) s0_end l).bind fun r2=>
 (B6 [59] r2.2 s0_end).bind fun _=>
 if(l1.length+[r2.1].length) * 64≤Ek then
 .ok ((r2.2.drop 1),(l1++[r2.1])) else .bad else .bad
def Gu (most:Int)(s0_l:List Token)(s0_end:Int)(l:List Volume)(l1:List Config):R ((List Token)×(List Config)):=
 if((l1.length:Int)==most) then
((Bj 2 s0_l s0_end).bind fun _=>
 G2 s0_l s0_end l l1)
else
(G2 s0_l s0_end l l1)
def Ib (s0_l:List Token)(s0_end:Int)(l:List Volume)(l1:List Config):R ((List Token)×(List Config)):=
 (Gu 32 s0_l s0_end l l1).bind fun r=>
 .ok (r.1,r.2)
def Gn (s0_l:List Token)(s0_end:Int)(l:List Volume)(l1:List Segment):R ((List Token)×(List Segment)):=
 if(0:Int)≤1∧1≤(s0_l.length:Int) then
 (B0 (s0_l.drop 1) s0_end).bind fun r1=>
 (Es r1 ((s0_l.drop 1).drop 1) s0_end l).bind fun r2=>
 (B6 [59] r2.2 s0_end).bind fun _=>
 if(l1.length+[r2.1].length) * 72≤Ek then
 .ok ((r2.2.drop 1),(l1++[r2.1])) else .bad else .bad
def Gb (most:Int)(s0_l:List Token)(s0_end:Int)(l:List Volume)(l1:List Segment):R ((List Token)×(List Segment)):=
 if((l1.length:Int)==most) then
((Bj 2 s0_l s0_end).bind fun _=>
 Gn s0_l s0_end l l1)
else
(Gn s0_l s0_end l l1)
def H7 (s0_l:List Token)(s0_end:Int)(l:List Volume)(l1:List Segment):R ((List Token)×(List Segment)):=
 (Gb 128 s0_l s0_end l l1).bind fun r=>
 .ok (r.1,r.2)
def Hf (s0_l:List Token)(s0_end:Int)(l:List Volume)(l1:List Route):R ((List Token)×(List Route)):=
 if(0:Int)≤1∧1≤(s0_l.length:Int) then
 (B0 (s0_l.drop 1) s0_end).bind fun r1=>
 (Er r1 ((s0_l.drop 1).drop 1) s0_end l).bind fun r2=>
 (B6 [59] r2.2 s0_end).bind fun _=>
 if(l1.length+[r2.1].length) * 112≤Ek then
 .ok ((r2.2.drop 1),(l1++[r2.1])) else .bad else .bad
def Hd (most:Int)(s0_l:List Token)(s0_end:Int)(l:List Volume)(l1:List Route):R ((List Token)×(List Route)):=
 if((l1.length:Int)==most) then
((Bj 2 s0_l s0_end).bind fun _=>
 Hf s0_l s0_end l l1)
else
(Hf s0_l s0_end l l1)
def H9 (s0_l:List Token)(s0_end:Int)(l:List Volume)(l1:List Route):R ((List Token)×(List Route)):=
 (Hd 64 s0_l s0_end l l1).bind fun r=>
 .ok (r.1,r.2)
def Gl (s0_l:List Token)(s0_end:Int)(l:List Volume)(l1:List Airport):R ((List Token)×(List Airport)):=
 if(0:Int)≤1∧1≤(s0_l.length:Int) then
 (B0 (s0_l.drop 1) s0_end).bind fun r1=>
 (Et r1 ((s0_l.drop 1).drop 1) s0_end l).bind fun r2=>
 (B6 [59] r2.2 s0_end).bind fun _=>
 if(l1.length+[r2.1].length) * 40≤Ek then
 .ok ((r2.2.drop 1),(l1++[r2.1])) else .bad else .bad
def Ge (most:Int)(s0_l:List Token)(s0_end:Int)(l:List Volume)(l1:List Airport):R ((List Token)×(List Airport)):=
 if((l1.length:Int)==most) then
((Bj 2 s0_l s0_end).bind fun _=>
 Gl s0_l s0_end l l1)
else
(Gl s0_l s0_end l l1)
def Ic (s0_l:List Token)(s0_end:Int)(l:List Volume)(l1:List Airport):R ((List Token)×(List Airport)):=
 (Ge 16 s0_l s0_end l l1).bind fun r=>
 .ok (r.1,r.2)
def Hi (s0_l:List Token)(s0_end:Int)(l:List Class):R (List Class):=
 if(0:Int)≤1∧1≤(s0_l.length:Int) then
 (B0 (s0_l.drop 1) s0_end).bind fun r1=>
 (E8 r1 ((s0_l.drop 1).drop 1) s0_end).bind fun r2=>
 (B6 [59] ((((((((s0_l.drop 1).drop 1).drop 1).drop 1).drop 1).drop 1).drop 1).drop 1) s0_end).bind fun _=>
 if(l.length+[r2].length) * 40≤Ek then
 .ok (l++[r2]) else .bad else .bad
def Ha (most:Int)(s0_l:List Token)(s0_end:Int)(l:List Class):R (List Class):=
 if((l.length:Int)==most) then
((Bj 2 s0_l s0_end).bind fun _=>
 Hi s0_l s0_end l)
else
(Hi s0_l s0_end l)
def H2 (s0_l:List Token)(s0_end:Int)(l:List Class):R (List Class):=
 (Ha 8 s0_l s0_end l).bind fun r=>
 .ok r
def H1 (s0_l:List Token)(s0_end:Int)(l:List Rule)(s2:Int):R (List Rule):=
 if(0:Int)≤1∧1≤(s0_l.length:Int) then
 (B0 (s0_l.drop 1) s0_end).bind fun r1=>
 (Fh r1 s2 ((s0_l.drop 1).drop 1) s0_end).bind fun r2=>
 (B6 [59] (((((((s0_l.drop 1).drop 1).drop 1).drop 1).drop 1).drop 1).drop 1) s0_end).bind fun _=>
 if(l.length+[r2].length) * 80≤Ek then
 .ok (l++[r2]) else .bad else .bad
def Ho (most:Int)(s0_l:List Token)(s0_end:Int)(l:List Rule)(s2:Int):R (List Rule):=
 if((l.length:Int)==most) then
((Bj 2 s0_l s0_end).bind fun _=>
 H1 s0_l s0_end l s2)
else
(H1 s0_l s0_end l s2)
def Jw (kind:Int)(s0_l:List Token)(s0_end:Int)(l:List Rule):R (List Rule):=
 (Ho 64 s0_l s0_end l kind).bind fun r=>
 .ok r
def H6 (s0_l:List Token)(s0_end:Int)(l:List Rule):R (List Rule):=
 (Jw 1 s0_l s0_end l).bind fun r=>
 .ok r
def Ia (s0_l:List Token)(s0_end:Int)(l:List Rule)(s2:Int):R (List Rule):=
 if(0:Int)≤1∧1≤(s0_l.length:Int) then
 (B0 (s0_l.drop 1) s0_end).bind fun r1=>
 (Gd r1 s2).bind fun _=>
 (B6 [59] ((s0_l.drop 1).drop 1) s0_end).bind fun _=>
 if(l.length+[({ Kind:=s2,C:=r1,A:=[],Class:=0,Airport:=0,N:=0,Hours:=({ From:=0,To:=0 }:Span) }:Rule)].length) * 80≤Ek then
 .ok (l++[({ Kind:=s2,C:=r1,A:=[],Class:=0,Airport:=0,N:=0,Hours:=({ From:=0,To:=0 }:Span) }:Rule)]) else .bad else .bad
def Hq (most:Int)(s0_l:List Token)(s0_end:Int)(l:List Rule)(s2:Int):R (List Rule):=
 if((l.length:Int)==most) then
((Bj 2 s0_l s0_end).bind fun _=>
 Ia s0_l s0_end l s2)
else
(Ia s0_l s0_end l s2)
def Kc (kind:Int)(s0_l:List Token)(s0_end:Int)(l:List Rule):R (List Rule):=
 (Hq 64 s0_l s0_end l kind).bind fun r=>
 .ok r
def H3 (s0_l:List Token)(s0_end:Int)(l:List Rule):R (List Rule):=
 (Kc 2 s0_l s0_end l).bind fun r=>
 .ok r
def H8 (s0_l:List Token)(s0_end:Int)(l:List Rule)(s2:Int):R (List Rule):=
 if(0:Int)≤1∧1≤(s0_l.length:Int) then
 (B0 (s0_l.drop 1) s0_end).bind fun r1=>
 (Fi r1 s2 ((s0_l.drop 1).drop 1) s0_end).bind fun r2=>
 (B6 [59] (((s0_l.drop 1).drop 1).drop 1) s0_end).bind fun _=>
 if(l.length+[r2].length) * 80≤Ek then
 .ok (l++[r2]) else .bad else .bad
def Ht (most:Int)(s0_l:List Token)(s0_end:Int)(l:List Rule)(s2:Int):R (List Rule):=
 if((l.length:Int)==most) then
((Bj 2 s0_l s0_end).bind fun _=>
 H8 s0_l s0_end l s2)
else
(H8 s0_l s0_end l s2)
def Kf (kind:Int)(s0_l:List Token)(s0_end:Int)(l:List Rule):R (List Rule):=
 (Ht 64 s0_l s0_end l kind).bind fun r=>
 .ok r
def Hj (s0_l:List Token)(s0_end:Int)(l:List Rule):R (List Rule):=
 (Kf 4 s0_l s0_end l).bind fun r=>
 .ok r
def H0 (s0_l:List Token)(s0_end:Int)(l:List Rule)(s2:Int):R (List Rule):=
 if(0:Int)≤1∧1≤(s0_l.length:Int) then
 (B0 (s0_l.drop 1) s0_end).bind fun r1=>
 (Fe r1 s2 ((s0_l.drop 1).drop 1) s0_end).bind fun r2=>
 (B6 [59] (((s0_l.drop 1).drop 1).drop 1) s0_end).bind fun _=>
 if(l.length+[r2].length) * 80≤Ek then
 .ok (l++[r2]) else .bad else .bad
def Hs (most:Int)(s0_l:List Token)(s0_end:Int)(l:List Rule)(s2:Int):R (List Rule):=
 if((l.length:Int)==most) then
((Bj 2 s0_l s0_end).bind fun _=>
 H0 s0_l s0_end l s2)
else
(H0 s0_l s0_end l s2)
def J3 (kind:Int)(s0_l:List Token)(s0_end:Int)(l:List Rule):R (List Rule):=
 (Hs 64 s0_l s0_end l kind).bind fun r=>
 .ok r
def Hl (s0_l:List Token)(s0_end:Int)(l:List Rule):R (List Rule):=
 (J3 3 s0_l s0_end l).bind fun r=>
 .ok r
def El (s0_l:List Token)(s0_end:Int)(l:List Volume)(l1:List Sector)(l2:List Config)(l3:List Segment)(l4:List Route)(l5:List Airport)(l6:List Class)(l7:List Rule):R ((List Token)×(List Volume)×(List Sector)×(List Config)×(List Segment)×(List Route)×(List Airport)×(List Class)×(List Rule)):=
 (Ll ({ fL:=s0_l,fEnd:=s0_end,fA:=({ Volumes:=l,Sectors:=l1,Configs:=l2,Segments:=l3,Routes:=l4,Airports:=l5,Classes:=l6,Rules:=l7 }:Airspace) }:T67) 80).bind fun _=>
 .ok (s0_l,l,l1,l2,l3,l4,l5,l6,l7)
def Fb (s0_l:List Token)(s0_end:Int)(l:List Volume)(l1:List Sector)(l2:List Config)(l3:List Segment)(l4:List Route)(l5:List Airport)(l6:List Class)(l7:List Rule):R ((List Token)×(List Volume)×(List Sector)×(List Config)×(List Segment)×(List Route)×(List Airport)×(List Class)×(List Rule)):=
 (Ed s0_l 0).bind fun a=>
 if(a.Kind==1) then
(if(a.Text==[97,105,114,112,111,114,116]) then
((Ic s0_l s0_end l l5).bind fun r=>
 .ok (r.1,l,l1,l2,l3,l4,r.2,l6,l7))
else
(if(a.Text==[99,108,97,115,115]) then
((H2 s0_l s0_end l6).bind fun r1=>
 .ok ((((((((((s0_l.drop 1).drop 1).drop 1).drop 1).drop 1).drop 1).drop 1).drop 1).drop 1),l,l1,l2,l3,l4,l5,r1,l7))
else
(if(a.Text==[99,111,110,102,105,103]) then
((Ib s0_l s0_end l l2).bind fun r2=>
 .ok (r2.1,l,l1,r2.2,l3,l4,l5,l6,l7))
else
(if(a.Text==[99,117,114,102,101,119]) then
((H6 s0_l s0_end l7).bind fun r3=>
 .ok (((((((((s0_l.drop 1).drop 1).drop 1).drop 1).drop 1).drop 1).drop 1).drop 1),l,l1,l2,l3,l4,l5,l6,r3))
else
(if(a.Text==[101,120,101,109,112,116]) then
((H3 s0_l s0_end l7).bind fun r4=>
 .ok ((((s0_l.drop 1).drop 1).drop 1),l,l1,l2,l3,l4,l5,l6,r4))
else
(if(a.Text==[108,111,110,103,101,115,116]) then
((Hj s0_l s0_end l7).bind fun r5=>
 .ok (((((s0_l.drop 1).drop 1).drop 1).drop 1),l,l1,l2,l3,l4,l5,l6,r5))
else
(if(a.Text==[114,111,117,116,101]) then
((H9 s0_l s0_end l l4).bind fun r6=>
 .ok (r6.1,l,l1,l2,l3,r6.2,l5,l6,l7))
else
(if(a.Text==[115,101,99,116,111,114]) then
((H5 s0_l s0_end l l1).bind fun r7=>
 .ok (r7.1,l,r7.2,l2,l3,l4,l5,l6,l7))
else
(if(a.Text==[115,101,103,109,101,110,116]) then
((H7 s0_l s0_end l l3).bind fun r8=>
 .ok (r8.1,l,l1,l2,r8.2,l4,l5,l6,l7))
else
(if(a.Text==[118,111,108,117,109,101]) then
((H4 s0_l s0_end l).bind fun r9=>
 .ok (r9.1,r9.2,l1,l2,l3,l4,l5,l6,l7))
else
(if(a.Text==[119,101,105,103,104,116]) then
((Hl s0_l s0_end l7).bind fun r10=>
 .ok (((((s0_l.drop 1).drop 1).drop 1).drop 1),l,l1,l2,l3,l4,l5,l6,r10))
else
(El s0_l s0_end l l1 l2 l3 l4 l5 l6 l7))))))))))))
else
(El s0_l s0_end l l1 l2 l3 l4 l5 l6 l7)
def Fx (n:Int)(n2:Int):R (Int×Int):=
 .ok (n,n2)
def Il (src:Aw)(fL:List Token)(l:List Airport)(l1:List Class)(l2:List Config)(l3:List Rule)(l4:List Route)(l5:List Sector)(l6:List Segment)(l7:List Volume):R (((List Token)×(List Airport)×(List Class)×(List Config)×(List Rule)×(List Route)×(List Sector)×(List Segment)×(List Volume)) ⊕ ((List Token)×(List Airport)×(List Class)×(List Config)×(List Rule)×(List Route)×(List Sector)×(List Segment)×(List Volume))):=
 if(fL.length:Int) > 0 then
((Fb fL (src.length:Int) l7 l5 l2 l6 l4 l l1 l3).bind fun r1=>
 .ok (.inl (r1.1,r1.2.2.2.2.2.2.1,r1.2.2.2.2.2.2.2.1,r1.2.2.2.1,r1.2.2.2.2.2.2.2.2,r1.2.2.2.2.2.1,r1.2.2.1,r1.2.2.2.2.1,r1.2.1)))
else
(.ok (.inr ((fL,l,l1,l2,l3,l4,l5,l6,l7))))
def O4 (fL3:List Token)(l8:List Airport)(l9:List Class)(l10:List Config)(l11:List Rule)(l12:List Route)(l13:List Sector)(l14:List Segment)(l15:List Volume):R (Airspace×Int×Int):=
 .ok (({ Volumes:=l15,Sectors:=l13,Configs:=l10,Segments:=l14,Routes:=l12,Airports:=l8,Classes:=l9,Rules:=l11 }:Airspace),0,0)
def Py (src:Aw):R (Airspace×Int×Int):=
 ((Vy src).np).bind fun r=>
 if(r.2.2 != 0) then
(.ok (({ Volumes:=[],Sectors:=[],Configs:=[],Segments:=[],Routes:=[],Airports:=[],Classes:=[],Rules:=[] }:Airspace),r.2.1,r.2.2))
else
((loop (Y6 fun fL l l1 l2 l3 l4 l5 l6 l7=>Il src fL l l1 l2 l3 l4 l5 l6 l7) (r.1,[],[],[],[],[],[],[],[])).bind (Y6 fun fL3 l8 l9 l10 l11 l12 l13 l14 l15=>O4 fL3 l8 l9 l10 l11 l12 l13 l14 l15))
def Hg (src:Aw):R (Airspace×Int×Int):=
 (Py src).catch' (M8 64 .i64 .i64 (fun n n2=>(Fx n n2).bind fun p=>.ok (({ Volumes:=[],Sectors:=[],Configs:=[],Segments:=[],Routes:=[],Airports:=[],Classes:=[],Rules:=[] }:Airspace),p.1,p.2)) (fun _=>.bad))
def Gz (ok:Bool)(t:Token)(s0_bad:Bool)(l:List Token):R (List Token):=
 if(l.length+[t].length) * 40≤Ek then
 .ok (l++[t]) else .bad
def Cn (s:Aw)(s0_bad:Bool)(l:List Token):R (Bool×(List Token)):=
 (Ru s).bind fun r=>
 (Gz r ({ Kind:=1,Text:=s,N:=0,At:=0 }:Token) s0_bad l).bind fun r1=>
 .ok ((s0_bad||(!r)),r1)
def Kb (a:Aw)(fBad:Bool)(l2:List Token):R (Bool×(List Token)):=
 (Gz true ({ Kind:=1,Text:=a,N:=0,At:=0 }:Token) fBad l2).bind fun r=>
 .ok ((fBad||(!true)),r)
def Bv (l:List Aw)(s0_bad:Bool)(l1:List Token):R (Bool×(List Token)):=
 (L1 (fun _ a=>Cy fun fBad l2=>Kb a fBad l2) 0 l (s0_bad,l1)).bind ((Cy fun fBad l2=>.ok (fBad,l2)))
def J2 (a:Aw)(fBad:Bool)(l2:List Token):R (Bool×(List Token)):=
 (Gz true ({ Kind:=3,Text:=a,N:=0,At:=0 }:Token) fBad l2).bind fun r=>
 .ok ((fBad||(!true)),r)
def Cp (l:List Aw)(s0_bad:Bool)(l1:List Token):R (Bool×(List Token)):=
 (L1 (fun _ a=>Cy fun fBad l2=>J2 a fBad l2) 0 l (s0_bad,l1)).bind ((Cy fun fBad l2=>.ok (fBad,l2)))
def Cz (n:Int)(least:Int)(most:Int)(s0_bad:Bool)(l:List Token):R (List Token):=
 (Gz ((decide (n≥least))&&(decide (n≤most))) ({ Kind:=2,Text:=[],N:=n,At:=0 }:Token) s0_bad l).bind fun r=>
 .ok r
def Jm (s:Span)(s0_bad:Bool)(l:List Token):R (Bool×(List Token)):=
 (Cz s.From 0 1439 s0_bad l).bind fun r=>
 (Bv [[116,111]] (s0_bad||(!((decide (s.From≥0))&&(decide (s.From≤1439))))) r).bind fun r1=>
 (Cz s.To (IntKind.wrap .i64 (s.From+1)) 1440 r1.1 r1.2).bind fun r2=>
 .ok ((r1.1||(!((decide (s.To≥(IntKind.wrap .i64 (s.From+1))))&&(decide (s.To≤1440))))),r2)
def I8 (a:Span)(fBad1:Bool)(l3:List Token):R (Bool×(List Token)):=
 (Jm a fBad1 l3).bind fun r1=>
 .ok (r1.1,r1.2)
def I9 (j:Nat)(a:Span)(fBad:Bool)(l2:List Token):R (Bool×(List Token)):=
 if(j:Int) > 0 then
((Cp [[44]] fBad l2).bind fun r=>
 I8 a r.1 r.2)
else
(I8 a fBad l2)
def Kq (l:List Span)(most:Int)(s0_bad:Bool)(l1:List Token):R (Bool×(List Token)):=
 (L1 (fun j a=>Cy fun fBad l2=>I9 j a fBad l2) 0 l (((s0_bad||((l.length:Int)==0))||(decide ((l.length:Int) > most))),l1)).bind ((Cy fun fBad l2=>.ok (fBad,l2)))
def Jk (text:Aw)(l:List Span)(s0_bad:Bool)(l1:List Token):R (Bool×(List Token)):=
 if(l.length:Int) > 0 then
((Bv [text] s0_bad l1).bind fun r=>
 (Kq l 16 r.1 r.2).bind fun r1=>
 .ok (r1.1,r1.2))
else
(.ok (s0_bad,l1))
def Nq (a:Volume)(s1_bad:Bool)(l:List Token):R (Bool×(List Token)):=
 (Cn a.Name s1_bad l).bind fun r=>
 (Jk [99,108,111,115,101,100] a.Closed r.1 r.2).bind fun r1=>
 .ok (r1.1,r1.2)
def Ix (a:Volume)(fBad1:Bool)(l2:List Token):R (Bool×(List Token)):=
 (Nq a fBad1 l2).bind fun r1=>
 (Cp [[59]] r1.1 r1.2).bind fun r2=>
 .ok (r2.1,r2.2)
def It (text:Aw)(a:Volume)(fBad:Bool)(l1:List Token):R (Bool×(List Token)):=
 if(text==[]) then
(Ix a fBad l1)
else
((Bv [text] fBad l1).bind fun r=>
 Ix a r.1 r.2)
def J8 (text:Aw)(l:List Volume)(most:Int)(s0_bad:Bool):R (Bool×(List Token)):=
 (L1 (fun _ a=>Cy fun fBad l1=>It text a fBad l1) 0 l ((s0_bad||(decide ((l.length:Int) > most))),[])).bind ((Cy fun fBad l1=>.ok (fBad,l1)))
def Iv (a:Aw)(fBad1:Bool)(l3:List Token):R (Bool×(List Token)):=
 (Cn a fBad1 l3).bind fun r1=>
 .ok (r1.1,r1.2)
def Io (j:Nat)(a:Aw)(fBad:Bool)(l2:List Token):R (Bool×(List Token)):=
 if(j:Int) > 0 then
((Cp [[44]] fBad l2).bind fun r=>
 Iv a r.1 r.2)
else
(Iv a fBad l2)
def F7 (l:List Aw)(most:Int)(s0_bad:Bool)(l1:List Token):R (Bool×(List Token)):=
 (L1 (fun j a=>Cy fun fBad l2=>Io j a fBad l2) 0 l (((s0_bad||((l.length:Int)==0))||(decide ((l.length:Int) > most))),l1)).bind ((Cy fun fBad l2=>.ok (fBad,l2)))
def Ns (a:Sector)(s1_bad:Bool)(l:List Token):R (Bool×(List Token)):=
 (Cn a.Name s1_bad l).bind fun r=>
 (Cp [[61]] r.1 r.2).bind fun r1=>
 (F7 a.Names 64 r1.1 r1.2).bind fun r2=>
 (Bv [[114,97,100,97,114]] r2.1 r2.2).bind fun r3=>
 (Cz a.Radar 0 64 r3.1 r3.2).bind fun r4=>
 (Bv [[112,114,111,99,101,100,117,114,97,108]] (r3.1||(!((decide (a.Radar≥0))&&(decide (a.Radar≤64))))) r4).bind fun r5=>
 (Cz a.Procedural 0 a.Radar r5.1 r5.2).bind fun r6=>
 .ok ((r5.1||(!((decide (a.Procedural≥0))&&(decide (a.Procedural≤a.Radar))))),r6)
def Im (a:Sector)(fBad1:Bool)(l3:List Token):R (Bool×(List Token)):=
 (Ns a fBad1 l3).bind fun r1=>
 (Cp [[59]] r1.1 r1.2).bind fun r2=>
 .ok (r2.1,r2.2)
def Iw (text:Aw)(a:Sector)(fBad:Bool)(l2:List Token):R (Bool×(List Token)):=
 if(text==[]) then
(Im a fBad l2)
else
((Bv [text] fBad l2).bind fun r=>
 Im a r.1 r.2)
def J6 (text:Aw)(l:List Sector)(most:Int)(s0_bad:Bool)(l1:List Token):R (Bool×(List Token)):=
 (L1 (fun _ a=>Cy fun fBad l2=>Iw text a fBad l2) 0 l ((s0_bad||(decide ((l.length:Int) > most))),l1)).bind ((Cy fun fBad l2=>.ok (fBad,l2)))
def Nm (a:Config)(s1_bad:Bool)(l:List Token):R (Bool×(List Token)):=
 (Cn a.Name s1_bad l).bind fun r=>
 (Cp [[61]] r.1 r.2).bind fun r1=>
 (F7 a.Names 64 r1.1 r1.2).bind fun r2=>
 .ok (r2.1,r2.2)
def Ij (a:Config)(fBad1:Bool)(l3:List Token):R (Bool×(List Token)):=
 (Nm a fBad1 l3).bind fun r1=>
 (Cp [[59]] r1.1 r1.2).bind fun r2=>
 .ok (r2.1,r2.2)
def Ip (text:Aw)(a:Config)(fBad:Bool)(l2:List Token):R (Bool×(List Token)):=
 if(text==[]) then
(Ij a fBad l2)
else
((Bv [text] fBad l2).bind fun r=>
 Ij a r.1 r.2)
def J7 (text:Aw)(l:List Config)(most:Int)(s0_bad:Bool)(l1:List Token):R (Bool×(List Token)):=
 (L1 (fun _ a=>Cy fun fBad l2=>Ip text a fBad l2) 0 l ((s0_bad||(decide ((l.length:Int) > most))),l1)).bind ((Cy fun fBad l2=>.ok (fBad,l2)))
def Np (a:Segment)(s1_bad:Bool)(l:List Token):R (Bool×(List Token)):=
 (Cn a.Name s1_bad l).bind fun r=>
 (Bv [[105,110]] r.1 r.2).bind fun r1=>
 (Cn a.In r1.1 r1.2).bind fun r2=>
 (Bv [[108,101,110,103,116,104]] r2.1 r2.2).bind fun r3=>
 (Cz a.Length 1 4096 r3.1 r3.2).bind fun r4=>
 (Jk [111,112,101,110] a.Open (r3.1||(!((decide (a.Length≥1))&&(decide (a.Length≤4096))))) r4).bind fun r5=>
 .ok (r5.1,r5.2)
def Hz (a:Segment)(fBad1:Bool)(l3:List Token):R (Bool×(List Token)):=
 (Np a fBad1 l3).bind fun r1=>
 (Cp [[59]] r1.1 r1.2).bind fun r2=>
 .ok (r2.1,r2.2)
def Hy (text:Aw)(a:Segment)(fBad:Bool)(l2:List Token):R (Bool×(List Token)):=
 if(text==[]) then
(Hz a fBad l2)
else
((Bv [text] fBad l2).bind fun r=>
 Hz a r.1 r.2)
def Jq (text:Aw)(l:List Segment)(most:Int)(s0_bad:Bool)(l1:List Token):R (Bool×(List Token)):=
 (L1 (fun _ a=>Cy fun fBad l2=>Hy text a fBad l2) 0 l ((s0_bad||(decide ((l.length:Int) > most))),l1)).bind ((Cy fun fBad l2=>.ok (fBad,l2)))
def Nl (a:Route)(s1_bad:Bool)(l:List Token):R (Bool×(List Token)):=
 (Cn a.Name s1_bad l).bind fun r=>
 (Bv [[102,114,111,109]] r.1 r.2).bind fun r1=>
 (Cn a.A r1.1 r1.2).bind fun r2=>
 (Bv [[116,111]] r2.1 r2.2).bind fun r3=>
 (Cn a.B r3.1 r3.2).bind fun r4=>
 (Bv [[118,105,97]] r4.1 r4.2).bind fun r5=>
 (F7 a.Names 8 r5.1 r5.2).bind fun r6=>
 .ok (r6.1,r6.2)
def Jb (a:Route)(fBad1:Bool)(l3:List Token):R (Bool×(List Token)):=
 (Nl a fBad1 l3).bind fun r1=>
 (Cp [[59]] r1.1 r1.2).bind fun r2=>
 .ok (r2.1,r2.2)
def I5 (text:Aw)(a:Route)(fBad:Bool)(l2:List Token):R (Bool×(List Token)):=
 if(text==[]) then
(Jb a fBad l2)
else
((Bv [text] fBad l2).bind fun r=>
 Jb a r.1 r.2)
def Kt (text:Aw)(l:List Route)(most:Int)(s0_bad:Bool)(l1:List Token):R (Bool×(List Token)):=
 (L1 (fun _ a=>Cy fun fBad l2=>I5 text a fBad l2) 0 l ((s0_bad||(decide ((l.length:Int) > most))),l1)).bind ((Cy fun fBad l2=>.ok (fBad,l2)))
def Mg (m:Mode)(s1_bad:Bool)(l:List Token):R (Bool×(List Token)):=
 (Bv [[109,111,100,101]] s1_bad l).bind fun r=>
 (Cn m.Name r.1 r.2).bind fun r1=>
 (Cz m.Places 0 64 r1.1 r1.2).bind fun r2=>
 .ok ((r1.1||(!((decide (m.Places≥0))&&(decide (m.Places≤64))))),r2)
def Ks (a:Mode)(fBad1:Bool)(l3:List Token):R (Bool×(List Token)):=
 (Mg a fBad1 l3).bind fun r1=>
 .ok (r1.1,r1.2)
def Kn (j:Nat)(a:Mode)(fBad:Bool)(l2:List Token):R (Bool×(List Token)):=
 if(j:Int) > 0 then
((Cp [[44]] fBad l2).bind fun r=>
 Ks a r.1 r.2)
else
(Ks a fBad l2)
def Mk (l:List Mode)(most:Int)(s0_bad:Bool)(l1:List Token):R (Bool×(List Token)):=
 (L1 (fun j a=>Cy fun fBad l2=>Kn j a fBad l2) 0 l (((s0_bad||((l.length:Int)==0))||(decide ((l.length:Int) > most))),l1)).bind ((Cy fun fBad l2=>.ok (fBad,l2)))
def Nr (a:Airport)(s1_bad:Bool)(l:List Token):R (Bool×(List Token)):=
 (Cn a.Name s1_bad l).bind fun r=>
 (Mk a.Modes 16 r.1 r.2).bind fun r1=>
 .ok (r1.1,r1.2)
def Hr (a:Airport)(fBad1:Bool)(l3:List Token):R (Bool×(List Token)):=
 (Nr a fBad1 l3).bind fun r1=>
 (Cp [[59]] r1.1 r1.2).bind fun r2=>
 .ok (r2.1,r2.2)
def Hx (text:Aw)(a:Airport)(fBad:Bool)(l2:List Token):R (Bool×(List Token)):=
 if(text==[]) then
(Hr a fBad l2)
else
((Bv [text] fBad l2).bind fun r=>
 Hr a r.1 r.2)
def Jp (text:Aw)(l:List Airport)(most:Int)(s0_bad:Bool)(l1:List Token):R (Bool×(List Token)):=
 (L1 (fun _ a=>Cy fun fBad l2=>Hx text a fBad l2) 0 l ((s0_bad||(decide ((l.length:Int) > most))),l1)).bind ((Cy fun fBad l2=>.ok (fBad,l2)))
def Nt (a:Class)(s1_bad:Bool)(l:List Token):R (Bool×(List Token)):=
 (Cn a.Name s1_bad l).bind fun r=>
 (Bv [[115,108,111,119]] r.1 r.2).bind fun r1=>
 (Cz a.Slow 1 64 r1.1 r1.2).bind fun r2=>
 (Bv [[102,97,115,116]] (r1.1||(!((decide (a.Slow≥1))&&(decide (a.Slow≤64))))) r2).bind fun r3=>
 (Cz a.Fast a.Slow 64 r3.1 r3.2).bind fun r4=>
 (Bv [[112,108,97,99,101,115]] (r3.1||(!((decide (a.Fast≥a.Slow))&&(decide (a.Fast≤64))))) r4).bind fun r5=>
 (Cz a.Places 1 8 r5.1 r5.2).bind fun r6=>
 .ok ((r5.1||(!((decide (a.Places≥1))&&(decide (a.Places≤8))))),r6)
def Ja (a:Class)(fBad1:Bool)(l3:List Token):R (Bool×(List Token)):=
 (Nt a fBad1 l3).bind fun r1=>
 (Cp [[59]] r1.1 r1.2).bind fun r2=>
 .ok (r2.1,r2.2)
def I3 (text:Aw)(a:Class)(fBad:Bool)(l2:List Token):R (Bool×(List Token)):=
 if(text==[]) then
(Ja a fBad l2)
else
((Bv [text] fBad l2).bind fun r=>
 Ja a r.1 r.2)
def Ko (text:Aw)(l:List Class)(most:Int)(s0_bad:Bool)(l1:List Token):R (Bool×(List Token)):=
 (L1 (fun _ a=>Cy fun fBad l2=>I3 text a fBad l2) 0 l ((s0_bad||(decide ((l.length:Int) > most))),l1)).bind ((Cy fun fBad l2=>.ok (fBad,l2)))
def Ff (text:Aw)(s1_bad:Bool)(l:List Token)(s3:Rule):R (Bool×(List Token)):=
 (Bv [text] s1_bad l).bind fun r=>
 (Cn s3.C r.1 r.2).bind fun r1=>
 .ok (r1.1,r1.2)
def Ew (b:Rule)(fBad:Bool)(l1:List Token)(o:Rule):R (Bool×(List Token)):=
 if fBad then
(.ok (true,l1))
else
(.ok ((!((b.Kind==o.Kind)&&((b.C==o.C)&&((b.A==o.A)&&((0==o.Class)&&((0==o.Airport)&&((b.N==o.N)&&((b.Hours.From==o.Hours.From)&&(b.Hours.To==o.Hours.To))))))))),l1))
def Mj (b:Rule)(s0_bad:Bool)(l:List Token):R (Bool×(List Token)):=
 if(b.Kind==1) then
((Ff [99,117,114,102,101,119] s0_bad l b).bind fun r=>
 (Bv [[97,116]] r.1 r.2).bind fun r1=>
 (Cn b.A r1.1 r1.2).bind fun r2=>
 (Jm b.Hours r2.1 r2.2).bind fun r3=>
 Ew b r3.1 r3.2 ({ Kind:=b.Kind,C:=b.C,A:=b.A,Class:=0,Airport:=0,N:=0,Hours:=b.Hours }:Rule))
else
(if(b.Kind==2) then
((Ff [101,120,101,109,112,116] s0_bad l b).bind fun r4=>
 Ew b r4.1 r4.2 ({ Kind:=b.Kind,C:=b.C,A:=[],Class:=0,Airport:=0,N:=0,Hours:=({ From:=0,To:=0 }:Span) }:Rule))
else
(if(b.Kind==3) then
((Ff [119,101,105,103,104,116] s0_bad l b).bind fun r5=>
 (Cz b.N 1 8 r5.1 r5.2).bind fun r6=>
 Ew b (r5.1||(!((decide (b.N≥1))&&(decide (b.N≤8))))) r6 ({ Kind:=b.Kind,C:=b.C,A:=[],Class:=0,Airport:=0,N:=b.N,Hours:=({ From:=0,To:=0 }:Span) }:Rule))
else
(if(b.Kind==4) then
((Ff [108,111,110,103,101,115,116] s0_bad l b).bind fun r7=>
 (Cz b.N 0 60 r7.1 r7.2).bind fun r8=>
 if(r7.1||(!((decide (b.N≥0))&&(decide (b.N≤60))))) then
(Ew b true r8 ({ Kind:=b.Kind,C:=b.C,A:=[],Class:=0,Airport:=0,N:=b.N,Hours:=({ From:=0,To:=0 }:Span) }:Rule))
else
(Ew b ((Int.tmod b.N 10) != 0) r8 ({ Kind:=b.Kind,C:=b.C,A:=[],Class:=0,Airport:=0,N:=b.N,Hours:=({ From:=0,To:=0 }:Span) }:Rule)))
else
(Ew b true l ({ Kind:=b.Kind,C:=b.C,A:=[],Class:=0,Airport:=0,N:=0,Hours:=({ From:=0,To:=0 }:Span) }:Rule)))))
def Ik (a:Rule)(fBad1:Bool)(l3:List Token):R (Bool×(List Token)):=
 (Mj a fBad1 l3).bind fun r1=>
 (Cp [[59]] r1.1 r1.2).bind fun r2=>
 .ok (r2.1,r2.2)
def Iq (text:Aw)(a:Rule)(fBad:Bool)(l2:List Token):R (Bool×(List Token)):=
 if(text==[]) then
(Ik a fBad l2)
else
((Bv [text] fBad l2).bind fun r=>
 Ik a r.1 r.2)
def Jv (text:Aw)(l:List Rule)(most:Int)(s0_bad:Bool)(l1:List Token):R (Bool×(List Token)):=
 (L1 (fun _ a=>Cy fun fBad l2=>Iq text a fBad l2) 0 l ((s0_bad||(decide ((l.length:Int) > most))),l1)).bind ((Cy fun fBad l2=>.ok (fBad,l2)))
def strings_Join (l:List Aw)(sep:Aw):R Aw:=if(Lib.join l sep).length≤140737488355328 then .ok (Lib.join l sep) else .bad
def O1 (j:Nat)(a:Token)(words:List Aw):R ((List Aw) ⊕ (Aw×Int)):=
 (Qv a).bind fun r=>
 if r then
(if(a.Kind==2) then
((strconv_Itoa a.N).bind fun r1=>
 (Ed words (j:Int)).bind fun a1=>
 .ok (.inl (words.set (j:Int).toNat r1)))
else
((Ed words (j:Int)).bind fun a2=>
 .ok (.inl (words.set (j:Int).toNat a.Text))))
else
(.ok (.inr (([],70))))
def Qf (l:List Token):R (Aw×Int):=
 if(0:Int)≤(l.length:Int)∧((l.length:Int):Int)≤(l.length:Int)∧(Int.toNat (l.length:Int)) * 16≤Ek then
 (each (fun j a=>fun words=>O1 j a words) 0 l (List.replicate (Int.toNat (l.length:Int)) [])).bind (De (fun words=>(strings_Join words [32]).bind fun src=>
 .ok (src,0)) (fun r=>.ok r)) else .bad
def Pm (a:Airspace):R (Aw×Int):=
 (J8 [118,111,108,117,109,101] a.Volumes 64 false).bind fun r=>
 (J6 [115,101,99,116,111,114] a.Sectors 64 r.1 r.2).bind fun r1=>
 (J7 [99,111,110,102,105,103] a.Configs 32 r1.1 r1.2).bind fun r2=>
 (Jq [115,101,103,109,101,110,116] a.Segments 128 r2.1 r2.2).bind fun r3=>
 (Kt [114,111,117,116,101] a.Routes 64 r3.1 r3.2).bind fun r4=>
 (Jp [97,105,114,112,111,114,116] a.Airports 16 r4.1 r4.2).bind fun r5=>
 (Ko [99,108,97,115,115] a.Classes 8 r5.1 r5.2).bind fun r6=>
 (Jv [] a.Rules 64 r6.1 r6.2).bind fun r7=>
 if r7.1 then
(.ok ([],80))
else
((Qf r7.2).bind fun r8=>
 .ok (r8.1,r8.2))
def Ln (b:List Span)(j:Nat)(a1:Span):R (Unit ⊕ Bool):=
 (Ed b (j:Int)).bind fun a2=>
 if((a1.From==a2.From)&&(a1.To==a2.To)) then
(.ok (.inl ()))
else
(.ok (.inr (false)))
def L3 (a:List Span)(b:List Span):R Bool:=
 if((a.length:Int) != (b.length:Int)) then
(.ok false)
else
((each (fun j a1=>fun _=>Ln b j a1) 0 a ()).bind (De (fun _=>.ok true) (fun r=>.ok r)))
def Lf (b:List Aw)(j:Nat)(a1:Aw):R (Unit ⊕ Bool):=
 (Ed b (j:Int)).bind fun a2=>
 if(a1==a2) then
(.ok (.inl ()))
else
(.ok (.inr (false)))
def Jz (a:List Aw)(b:List Aw):R Bool:=
 if((a.length:Int) != (b.length:Int)) then
(.ok false)
else
((each (fun j a1=>fun _=>Lf b j a1) 0 a ()).bind (De (fun _=>.ok true) (fun r=>.ok r)))
def Mc (b:List Int)(j:Nat)(a1:Int):R (Unit ⊕ Bool):=
 (Ed b (j:Int)).bind fun a2=>
 if(a1 != a2) then
(.ok (.inr (false)))
else
(.ok (.inl ()))
def Gr (a:List Int)(b:List Int):R Bool:=
 if((a.length:Int) != (b.length:Int)) then
(.ok false)
else
((each (fun j a1=>fun _=>Mc b j a1) 0 a ()).bind (De (fun _=>.ok true) (fun r=>.ok r)))
def Oo (x1:Bool):R (Unit ⊕ Bool):=
 if x1 then
(.ok (.inr (false)))
else
(.ok (.inl ()))
def Oy (b:Airspace)(j:Nat)(a1:Volume):R (Unit ⊕ Bool):=
 (Ed b.Volumes (j:Int)).bind fun a2=>
 if(!(a1.Name==a2.Name)) then
(Oo true)
else
((L3 a1.Closed a2.Closed).bind fun r=>
 Oo (!r))
def M6 (b:Airspace)(j1:Nat)(a3:Sector):R (Unit ⊕ Bool):=
 (Ed b.Sectors (j1:Int)).bind fun a4=>
 (if(!(a3.Name==a4.Name)) then R.ok true else(Jz a3.Names a4.Names).bind fun r1=>
 R.ok (!r1)).bind (fun(b1:Bool)=>(if b1 then R.ok true else(Gr a3.Volumes a4.Volumes).bind fun r2=>
 R.ok (!r2)).bind (fun(b2:Bool)=>if((b2||(a3.Radar != a4.Radar))||(a3.Procedural != a4.Procedural)) then
(.ok (.inr (false)))
else
(.ok (.inl ()))))
def L7 (b:Airspace)(j2:Nat)(a5:Config):R (Unit ⊕ Bool):=
 (Ed b.Configs (j2:Int)).bind fun a6=>
 (if(!(a5.Name==a6.Name)) then R.ok true else(Jz a5.Names a6.Names).bind fun r3=>
 R.ok (!r3)).bind (fun(b3:Bool)=>(if b3 then R.ok true else(Gr a5.Sectors a6.Sectors).bind fun r4=>
 R.ok (!r4)).bind (fun(b4:Bool)=>if b4 then
(.ok (.inr (false)))
else
(.ok (.inl ()))))
def Kh (b:Airspace)(j3:Nat)(a7:Segment):R (Unit ⊕ Bool):=
 (Ed b.Segments (j3:Int)).bind fun a8=>
 (if((((!(a7.Name==a8.Name))||(!(a7.In==a8.In)))||(a7.Volume != a8.Volume))||(a7.Length != a8.Length)) then R.ok true else(L3 a7.Open a8.Open).bind fun r5=>
 R.ok (!r5)).bind (fun(b5:Bool)=>if b5 then
(.ok (.inr (false)))
else
(.ok (.inl ())))
def I4 (b:Airspace)(j4:Nat)(a9:Route):R (Unit ⊕ Bool):=
 (Ed b.Routes (j4:Int)).bind fun a10=>
 (if(((((!(a9.Name==a10.Name))||(!(a9.A==a10.A)))||(!(a9.B==a10.B)))||(a9.From != a10.From))||(a9.To != a10.To)) then R.ok true else(Jz a9.Names a10.Names).bind fun r6=>
 R.ok (!r6)).bind (fun(b6:Bool)=>(if b6 then R.ok true else(Gr a9.Segments a10.Segments).bind fun r7=>
 R.ok (!r7)).bind (fun(b7:Bool)=>if b7 then
(.ok (.inr (false)))
else
(.ok (.inl ()))))
def Ow (a12:Airport)(j6:Nat)(a13:Mode):R (Unit ⊕ Bool):=
 (Ed a12.Modes (j6:Int)).bind fun a14=>
 if((a13.Name==a14.Name)&&(a13.Places==a14.Places)) then
(.ok (.inl ()))
else
(.ok (.inr (false)))
def Hm (b:Airspace)(j5:Nat)(a11:Airport):R (Unit ⊕ Bool):=
 (Ed b.Airports (j5:Int)).bind fun a12=>
 if((!(a11.Name==a12.Name))||((a11.Modes.length:Int) != (a12.Modes.length:Int))) then
(.ok (.inr (false)))
else
((each (fun j6 a13=>fun _=>Ow a12 j6 a13) 0 a11.Modes ()).bind (De (fun _=>.ok (.inl ())) (fun r=>.ok (.inr (r)))))
def Gk (b:Airspace)(j7:Nat)(a15:Class):R (Unit ⊕ Bool):=
 (Ed b.Classes (j7:Int)).bind fun a16=>
 if((a15.Name==a16.Name)&&((a15.Slow==a16.Slow)&&((a15.Fast==a16.Fast)&&(a15.Places==a16.Places)))) then
(.ok (.inl ()))
else
(.ok (.inr (false)))
def F1 (b:Airspace)(j8:Nat)(a17:Rule):R (Unit ⊕ Bool):=
 (Ed b.Rules (j8:Int)).bind fun a18=>
 if((a17.Kind==a18.Kind)&&((a17.C==a18.C)&&((a17.A==a18.A)&&((a17.Class==a18.Class)&&((a17.Airport==a18.Airport)&&((a17.N==a18.N)&&((a17.Hours.From==a18.Hours.From)&&(a17.Hours.To==a18.Hours.To)))))))) then
(.ok (.inl ()))
else
(.ok (.inr (false)))
def Oj (a:Airspace)(b:Airspace):R Bool:=
 if(((((((((a.Volumes.length:Int) != (b.Volumes.length:Int))||((a.Sectors.length:Int) != (b.Sectors.length:Int)))||((a.Configs.length:Int) != (b.Configs.length:Int)))||((a.Segments.length:Int) != (b.Segments.length:Int)))||((a.Routes.length:Int) != (b.Routes.length:Int)))||((a.Airports.length:Int) != (b.Airports.length:Int)))||((a.Classes.length:Int) != (b.Classes.length:Int)))||((a.Rules.length:Int) != (b.Rules.length:Int))) then
(.ok false)
else
((each (fun j a1=>fun _=>Oy b j a1) 0 a.Volumes ()).bind (De (fun _=>(each (fun j1 a3=>fun _=>M6 b j1 a3) 0 a.Sectors ()).bind (De (fun _=>(each (fun j2 a5=>fun _=>L7 b j2 a5) 0 a.Configs ()).bind (De (fun _=>(each (fun j3 a7=>fun _=>Kh b j3 a7) 0 a.Segments ()).bind (De (fun _=>(each (fun j4 a9=>fun _=>I4 b j4 a9) 0 a.Routes ()).bind (De (fun _=>(each (fun j5 a11=>fun _=>Hm b j5 a11) 0 a.Airports ()).bind (De (fun _=>(each (fun j7 a15=>fun _=>Gk b j7 a15) 0 a.Classes ()).bind (De (fun _=>(each (fun j8 a17=>fun _=>F1 b j8 a17) 0 a.Rules ()).bind (De (fun _=>.ok true) (fun r=>.ok r))) (fun r=>.ok r))) (fun r=>.ok r))) (fun r=>.ok r))) (fun r=>.ok r))) (fun r=>.ok r))) (fun r=>.ok r))) (fun r=>.ok r)))
def Mh (s2:List Span)(j:Nat)(a:Span):R (Unit ⊕ Bool):=
 (Ed s2 (j:Int)).bind fun a1=>
 if((a.From==a1.From)&&(a.To==a1.To)) then
(.ok (.inl ()))
else
(.ok (.inr (false)))
def Nn (s1:List Span)(s2:List Span):R Bool:=
 if((s1.length:Int) != (s2.length:Int)) then
(.ok false)
else
((each (fun j a=>fun _=>Mh s2 j a) 0 s1 ()).bind (De (fun _=>.ok true) (fun r=>.ok r)))
def Rw (a:Volume)(y:Volume):R Bool:=
 (if(a.Name==y.Name) then(Nn a.Closed y.Closed).bind fun r=>
 R.ok r else R.ok false).bind (fun(b:Bool)=>.ok b)
def Dp (s2:List Volume)(j:Nat)(a:Volume):R (Unit ⊕ Bool):=
 (Ed s2 (j:Int)).bind fun a1=>
 (Rw a a1).bind fun r=>
 if r then
(.ok (.inl ()))
else
(.ok (.inr (false)))
def Eo (s1:List Volume)(s2:List Volume):R Bool:=
 if((s1.length:Int) != (s2.length:Int)) then
(.ok false)
else
((each (fun j a=>fun _=>Dp s2 j a) 0 s1 ()).bind (De (fun _=>.ok true) (fun r=>.ok r)))
def Ld (s2:List Aw)(j:Nat)(a:Aw):R (Unit ⊕ Bool):=
 (Ed s2 (j:Int)).bind fun a1=>
 if(a==a1) then
(.ok (.inl ()))
else
(.ok (.inr (false)))
def Ky (s1:List Aw)(s2:List Aw):R Bool:=
 if((s1.length:Int) != (s2.length:Int)) then
(.ok false)
else
((each (fun j a=>fun _=>Ld s2 j a) 0 s1 ()).bind (De (fun _=>.ok true) (fun r=>.ok r)))
def Mv (s2:List Int)(j:Nat)(a:Int):R (Unit ⊕ Bool):=
 (Ed s2 (j:Int)).bind fun a1=>
 if(a != a1) then
(.ok (.inr (false)))
else
(.ok (.inl ()))
def Hk (s1:List Int)(s2:List Int):R Bool:=
 if((s1.length:Int) != (s2.length:Int)) then
(.ok false)
else
((each (fun j a=>fun _=>Mv s2 j a) 0 s1 ()).bind (De (fun _=>.ok true) (fun r=>.ok r)))
def Sb (a:Sector)(y:Sector):R Bool:=
 (if(a.Name==y.Name) then(Ky a.Names y.Names).bind fun r=>
 R.ok r else R.ok false).bind (fun(b:Bool)=>(if b then(Hk a.Volumes y.Volumes).bind fun r1=>
 R.ok r1 else R.ok false).bind (fun(b1:Bool)=>.ok ((b1&&(a.Radar==y.Radar))&&(a.Procedural==y.Procedural))))
def Dq (s2:List Sector)(j:Nat)(a:Sector):R (Unit ⊕ Bool):=
 (Ed s2 (j:Int)).bind fun a1=>
 (Sb a a1).bind fun r=>
 if r then
(.ok (.inl ()))
else
(.ok (.inr (false)))
def En (s1:List Sector)(s2:List Sector):R Bool:=
 if((s1.length:Int) != (s2.length:Int)) then
(.ok false)
else
((each (fun j a=>fun _=>Dq s2 j a) 0 s1 ()).bind (De (fun _=>.ok true) (fun r=>.ok r)))
def R5 (a:Config)(y:Config):R Bool:=
 (if(a.Name==y.Name) then(Ky a.Names y.Names).bind fun r=>
 R.ok r else R.ok false).bind (fun(b:Bool)=>(if b then(Hk a.Sectors y.Sectors).bind fun r1=>
 R.ok r1 else R.ok false).bind (fun(b1:Bool)=>.ok b1))
def Dr (s2:List Config)(j:Nat)(a:Config):R (Unit ⊕ Bool):=
 (Ed s2 (j:Int)).bind fun a1=>
 (R5 a a1).bind fun r=>
 if r then
(.ok (.inl ()))
else
(.ok (.inr (false)))
def Dv (s1:List Config)(s2:List Config):R Bool:=
 if((s1.length:Int) != (s2.length:Int)) then
(.ok false)
else
((each (fun j a=>fun _=>Dr s2 j a) 0 s1 ()).bind (De (fun _=>.ok true) (fun r=>.ok r)))
def R2 (a:Segment)(y:Segment):R Bool:=
 (if((((a.Name==y.Name)&&(a.In==y.In))&&(a.Volume==y.Volume))&&(a.Length==y.Length)) then(Nn a.Open y.Open).bind fun r=>
 R.ok r else R.ok false).bind (fun(b:Bool)=>.ok b)
def Dd (s2:List Segment)(j:Nat)(a:Segment):R (Unit ⊕ Bool):=
 (Ed s2 (j:Int)).bind fun a1=>
 (R2 a a1).bind fun r=>
 if r then
(.ok (.inl ()))
else
(.ok (.inr (false)))
def C0 (s1:List Segment)(s2:List Segment):R Bool:=
 if((s1.length:Int) != (s2.length:Int)) then
(.ok false)
else
((each (fun j a=>fun _=>Dd s2 j a) 0 s1 ()).bind (De (fun _=>.ok true) (fun r=>.ok r)))
def R1 (a:Route)(y:Route):R Bool:=
 (if(((((a.Name==y.Name)&&(a.A==y.A))&&(a.B==y.B))&&(a.From==y.From))&&(a.To==y.To)) then(Ky a.Names y.Names).bind fun r=>
 R.ok r else R.ok false).bind (fun(b:Bool)=>(if b then(Hk a.Segments y.Segments).bind fun r1=>
 R.ok r1 else R.ok false).bind (fun(b1:Bool)=>.ok b1))
def Dw (s2:List Route)(j:Nat)(a:Route):R (Unit ⊕ Bool):=
 (Ed s2 (j:Int)).bind fun a1=>
 (R1 a a1).bind fun r=>
 if r then
(.ok (.inl ()))
else
(.ok (.inr (false)))
def Cs (s1:List Route)(s2:List Route):R Bool:=
 if((s1.length:Int) != (s2.length:Int)) then
(.ok false)
else
((each (fun j a=>fun _=>Dw s2 j a) 0 s1 ()).bind (De (fun _=>.ok true) (fun r=>.ok r)))
def Md (s2:List Mode)(j:Nat)(a:Mode):R (Unit ⊕ Bool):=
 (Ed s2 (j:Int)).bind fun a1=>
 if((a.Name==a1.Name)&&(a.Places==a1.Places)) then
(.ok (.inl ()))
else
(.ok (.inr (false)))
def P3 (s1:List Mode)(s2:List Mode):R Bool:=
 if((s1.length:Int) != (s2.length:Int)) then
(.ok false)
else
((each (fun j a=>fun _=>Md s2 j a) 0 s1 ()).bind (De (fun _=>.ok true) (fun r=>.ok r)))
def Rs (a:Airport)(y:Airport):R Bool:=
 (if(a.Name==y.Name) then(P3 a.Modes y.Modes).bind fun r=>
 R.ok r else R.ok false).bind (fun(b:Bool)=>.ok b)
def Dc (s2:List Airport)(j:Nat)(a:Airport):R (Unit ⊕ Bool):=
 (Ed s2 (j:Int)).bind fun a1=>
 (Rs a a1).bind fun r=>
 if r then
(.ok (.inl ()))
else
(.ok (.inr (false)))
def Ca (s1:List Airport)(s2:List Airport):R Bool:=
 if((s1.length:Int) != (s2.length:Int)) then
(.ok false)
else
((each (fun j a=>fun _=>Dc s2 j a) 0 s1 ()).bind (De (fun _=>.ok true) (fun r=>.ok r)))
def Lu (s2:List Class)(j:Nat)(a:Class):R (Unit ⊕ Bool):=
 (Ed s2 (j:Int)).bind fun a1=>
 if((a.Name==a1.Name)&&((a.Slow==a1.Slow)&&((a.Fast==a1.Fast)&&(a.Places==a1.Places)))) then
(.ok (.inl ()))
else
(.ok (.inr (false)))
def Ga (s1:List Class)(s2:List Class):R Bool:=
 if((s1.length:Int) != (s2.length:Int)) then
(.ok false)
else
((each (fun j a=>fun _=>Lu s2 j a) 0 s1 ()).bind (De (fun _=>.ok true) (fun r=>.ok r)))
def Mf (s2:List Rule)(j:Nat)(a:Rule):R (Unit ⊕ Bool):=
 (Ed s2 (j:Int)).bind fun a1=>
 if((a.Kind==a1.Kind)&&((a.C==a1.C)&&((a.A==a1.A)&&((a.Class==a1.Class)&&((a.Airport==a1.Airport)&&((a.N==a1.N)&&((a.Hours.From==a1.Hours.From)&&(a.Hours.To==a1.Hours.To)))))))) then
(.ok (.inl ()))
else
(.ok (.inr (false)))
def F0 (s1:List Rule)(s2:List Rule):R Bool:=
 if((s1.length:Int) != (s2.length:Int)) then
(.ok false)
else
((each (fun j a=>fun _=>Mf s2 j a) 0 s1 ()).bind (De (fun _=>.ok true) (fun r=>.ok r)))
def Nh (a:Airspace)(b:Airspace):R Bool:=
 (Eo a.Volumes b.Volumes).bind fun r=>
 (if r then(En a.Sectors b.Sectors).bind fun r1=>
 R.ok r1 else R.ok false).bind (fun(b1:Bool)=>(if b1 then(Dv a.Configs b.Configs).bind fun r2=>
 R.ok r2 else R.ok false).bind (fun(b2:Bool)=>(if b2 then(C0 a.Segments b.Segments).bind fun r3=>
 R.ok r3 else R.ok false).bind (fun(b3:Bool)=>(if b3 then(Cs a.Routes b.Routes).bind fun r4=>
 R.ok r4 else R.ok false).bind (fun(b4:Bool)=>(if b4 then(Ca a.Airports b.Airports).bind fun r5=>
 R.ok r5 else R.ok false).bind (fun(b5:Bool)=>(if b5 then(Ga a.Classes b.Classes).bind fun r6=>
 R.ok r6 else R.ok false).bind (fun(b6:Bool)=>(if b6 then(F0 a.Rules b.Rules).bind fun r7=>
 R.ok r7 else R.ok false).bind (fun(b7:Bool)=>.ok b7)))))))
def Q4:R Bool:=
 (Hg []).bind fun r=>
 (Hg [118,111,108,117,109,101,32,97,32,99,108,111,115,101,100,32,54,48,32,116,111,32,54,48,59]).bind fun r1=>
 (Hg [101,120,101,109,112,116,32,104,101,97,118,121]).bind fun r2=>
 (Hg [108,111,110,103,101,115,116,32,104,101,97,118,121,32,51,53,59]).bind fun r3=>
 (Pm ({ Volumes:=[],Sectors:=[],Configs:=[],Segments:=[],Routes:=[],Airports:=[({ Name:=[120],Modes:=[] }:Airport)],Classes:=[],Rules:=[] }:Airspace)).bind fun r4=>
 (Pm ({ Volumes:=[({ Name:=[97],Closed:=[] }:Volume)],Sectors:=[],Configs:=[],Segments:=[],Routes:=[],Airports:=[],Classes:=[],Rules:=[] }:Airspace)).bind fun r5=>
 (Hg [99,117,114,102,101,119,32,104,101,97,118,121,32,97,116,32,120,32,48,32,116,111,32,51,48,48,59,32,115,101,99,116,111,114,32,115,32,61,32,97,44,32,98,32,114,97,100,97,114,32,57,32,112,114,111,99,101,100,117,114,97,108,32,52,59]).bind fun r6=>
 (Pm ({ Volumes:=[],Sectors:=[({ Name:=[115],Names:=[[97],[98]],Volumes:=[0,1],Radar:=9,Procedural:=4 }:Sector)],Configs:=[],Segments:=[],Routes:=[],Airports:=[],Classes:=[],Rules:=[({ Kind:=1,C:=[104,101,97,118,121],A:=[120],Class:=0,Airport:=0,N:=0,Hours:=({ From:=0,To:=300 }:Span) }:Rule)] }:Airspace)).bind fun r7=>
 if(((((((((((((r.2.2 != 0)||(r1.2.2 != 80))||(r2.2.2 != 80))||(r3.2.2 != 80))||(r4.2 != 80))||(r5.2 != 0))||(r6.2.2 != 0))||(r7.2 != 0))||(r.2.1 != 0))||(r1.2.1 != 22))||(r2.2.1 != 12))||(r3.2.1 != 14))||(r6.2.1 != 0)) then
(.ok false)
else
((Oj r.1 ({ Volumes:=[],Sectors:=[],Configs:=[],Segments:=[],Routes:=[],Airports:=[],Classes:=[],Rules:=[] }:Airspace)).bind fun r8=>
 (if(r8&&(r5.1==[118,111,108,117,109,101,32,97,32,59])) then(Oj r6.1 ({ Volumes:=[],Sectors:=[({ Name:=[115],Names:=[[97],[98]],Volumes:=[],Radar:=9,Procedural:=4 }:Sector)],Configs:=[],Segments:=[],Routes:=[],Airports:=[],Classes:=[],Rules:=[({ Kind:=1,C:=[104,101,97,118,121],A:=[120],Class:=0,Airport:=0,N:=0,Hours:=({ From:=0,To:=300 }:Span) }:Rule)] }:Airspace)).bind fun r9=>
 R.ok r9 else R.ok false).bind (fun(b:Bool)=>(if(b&&(r7.1==[115,101,99,116,111,114,32,115,32,61,32,97,32,44,32,98,32,114,97,100,97,114,32,57,32,112,114,111,99,101,100,117,114,97,108,32,52,32,59,32,99,117,114,102,101,119,32,104,101,97,118,121,32,97,116,32,120,32,48,32,116,111,32,51,48,48,32,59])) then(Nh r6.1 ({ Volumes:=[],Sectors:=[({ Name:=[115],Names:=[[97],[98]],Volumes:=[],Radar:=9,Procedural:=4 }:Sector)],Configs:=[],Segments:=[],Routes:=[],Airports:=[],Classes:=[],Rules:=[({ Kind:=1,C:=[104,101,97,118,121],A:=[120],Class:=0,Airport:=0,N:=0,Hours:=({ From:=0,To:=300 }:Span) }:Rule)] }:Airspace)).bind fun r10=>
 R.ok r10 else R.ok false).bind (fun(b1:Bool)=>(if b1 then(Nh r6.1 ({ Volumes:=[],Sectors:=[({ Name:=[115],Names:=[[97],[98]],Volumes:=[0,1],Radar:=9,Procedural:=4 }:Sector)],Configs:=[],Segments:=[],Routes:=[],Airports:=[],Classes:=[],Rules:=[({ Kind:=1,C:=[104,101,97,118,121],A:=[120],Class:=0,Airport:=0,N:=0,Hours:=({ From:=0,To:=300 }:Span) }:Rule)] }:Airspace)).bind fun r11=>
 R.ok (!r11) else R.ok false).bind (fun(b2:Bool)=>.ok b2))))
def M7 (src:Aw):R Bool:=
 (Q4).bind fun r=>
 if r then
(if(src.length:Int) > 4000 then
(.ok true)
else
((Hg src).bind fun r1=>
 (Vy src).bind fun r2=>
 if(r2.2.2 != 0) then
(.ok ((r1.2.2==r2.2.2)&&(r1.2.1==r2.2.1)))
else
((Qf r2.1).bind fun r3=>
 if((r3.2 != 0)||(decide ((r3.1.length:Int) > 65536))) then
(.ok (r3.2==0))
else
((Hg r3.1).bind fun r4=>
 (Oj r1.1 r4.1).bind fun r5=>
 .ok (r5&&(r1.2.2==r4.2.2))))))
else
(.ok false)
end
end Go.Am
namespace Go.Am
open Go
set_option linter.unusedVariables false
def Mo:Prop := ∀ (a0:Aw) (_:Aee.good a0),Aee.bulk a0≤1048576→M7 a0=.ok true
end Go.Am
namespace Go.Am
open Go
set_option linter.unusedVariables false
set_option linter.unusedSimpArgs false
def Jx (c:UInt8):Bool:=c==32||c==9||c==10||c==13
def Na (c:UInt8):Bool:=(decide (97≤c)&&decide (c≤122))||(decide (65≤c)&&decide (c≤90))
def D9 (c:UInt8):Bool:=decide (48≤c)&&decide (c≤57)
def G3 (c:UInt8):Bool:=Na c||D9 c||c==95
def Qc (c:UInt8):Bool:=[(123:UInt8),125,40,41,59,44,61,35,47,60,33,45,46].contains c
def G8 (c:UInt8):Int:=if Na c then 2 else if D9 c then 3 else if c==95 then 5 else if Jx c then 1 else if Qc c then 4 else 0
theorem Ph {p:UInt8→Prop}(h : ∀ n:Fin 256,p (UInt8.ofNat n.val))(c:UInt8):p c:=by
 have h1:=h ⟨c.toNat,c.toNat_lt⟩
 have e:UInt8.ofNat c.toNat=c:=by simp
 simpa [e] using h1
theorem Ya (c:UInt8):Ki (c.toNat:Int)=.ok (G8 c):=Ph (p:=fun c=>Ki (c.toNat:Int)=.ok (G8 c)) (by decide +kernel) c
theorem Aiq (c:UInt8):(G8 c==1)=Jx c:=Ph (p:=fun c=>(G8 c==1)=Jx c) (by decide +kernel) c
theorem Agu (c:UInt8):(G8 c==2)=Na c:=Ph (p:=fun c=>(G8 c==2)=Na c) (by decide +kernel) c
theorem Aix (c:UInt8):(G8 c==3)=D9 c:=Ph (p:=fun c=>(G8 c==3)=D9 c) (by decide +kernel) c
theorem Ajx (c:UInt8):(G8 c==4)=Qc c:=Ph (p:=fun c=>(G8 c==4)=Qc c) (by decide +kernel) c
theorem Ana (c:UInt8):(G8 c==2||G8 c==3||G8 c==5)=G3 c:=Ph (p:=fun c=>(G8 c==2||G8 c==3||G8 c==5)=G3 c) (by decide +kernel) c
theorem Aog (c:UInt8):G8 c=0∨G8 c=1∨G8 c=2∨G8 c=3∨G8 c=4∨G8 c=5:=Ph (p:=fun c=>G8 c=0∨G8 c=1∨G8 c=2∨G8 c=3∨G8 c=4∨G8 c=5) (by decide +kernel) c
theorem Aei {c:UInt8}(h:Na c=true):G3 c=true:=by simp [G3,h]
theorem Amp {c:UInt8}(h:Na c=true):Jx c=false:=by
 revert h; exact Ph (p:=fun c=>Na c=true→Jx c=false) (by decide +kernel) c
theorem Am1 {c:UInt8}(h:D9 c=true):Jx c=false∧Na c=false:=by
 revert h; exact Ph (p:=fun c=>D9 c=true→Jx c=false∧Na c=false) (by decide +kernel) c
theorem Akf {c:UInt8}(h:Qc c=true):Jx c=false∧Na c=false∧D9 c=false:=by
 revert h; exact Ph (p:=fun c=>Qc c=true→Jx c=false∧Na c=false∧D9 c=false) (by decide +kernel) c
theorem Adm {c:UInt8}(h:Jx c=true):G3 c=false∧D9 c=false∧c≠47:=by
 revert h; exact Ph (p:=fun c=>Jx c=true→G3 c=false∧D9 c=false∧c≠47) (by decide +kernel) c
theorem Afv {src:Aw}{q:UInt8→Bool}{body:Int→R (Int ⊕ Int)}(hb : ∀ n:Nat,n≤src.length→body (n:Int)=match src[n]? with | some c=>if q c then .ok (.inl ((n+1:Nat):Int)) else .ok (.inr (n:Int)) | none=>.ok (.inr (n:Int))) :
  ∀ (k p:Nat),p≤src.length→src.length - p=k→loop body (p:Int)=.ok (((p+((src.drop p).takeWhile q).length:Nat)):Int)
 | k,p,hp,hk=>by
  rw [Sa,hb p hp]
  by_cases hl:p<src.length
  ·have e:src.drop p=src[p]::src.drop (p+1):=List.drop_eq_getElem_cons hl
   rw [List.getElem?_eq_getElem hl,e,List.takeWhile_cons]
   simp only
   cases hq:q src[p]
   ·simp
   ·simp only [if_true,R.ok_bind]
    cases k with
    | zero=>omega
    | succ k=>
     rw [Afv hb k (p+1) hl (by omega)]
     simp only [List.length_cons]
     congr 2
     omega
  ·have e:src[p]? = none:=List.getElem?_eq_none (by omega)
   have e2:src.drop p=[]:=List.drop_eq_nil_of_le (by omega)
   rw [e,e2]; simp
theorem Yp {α:Type}(q:α→Bool) : ∀ l:List α,l.take (l.takeWhile q).length=l.takeWhile q
 | []=>rfl
 | a::l=>by
  rw [List.takeWhile_cons]
  cases q a
  ·rfl
  ·simp [Yp q l]
theorem Rj {α:Type}(q:α→Bool) : ∀ l:List α,(l.takeWhile q).length≤l.length
 | []=>Nat.le_refl _
 | a::l=>by
  rw [List.takeWhile_cons]
  cases q a
  ·simp
  ·simpa using Rj q l
theorem Am8 {src:Aw}{p:Nat}(q:UInt8→Bool):P5 src (p:Int) ((p+((src.drop p).takeWhile q).length:Nat):Int)=(src.drop p).takeWhile q:=by
 unfold P5
 simp only [Int.toNat_natCast]
 rw [show p+((src.drop p).takeWhile q).length - p=((src.drop p).takeWhile q).length by omega,Yp]
theorem Af4 {src:Aw}{n:Nat}{c:UInt8}(h:src[n]? = some c):Ed src (n:Int)=.ok c:=Yw h
theorem Ab6 (v:Int) : ∀ (l:List Int) (k:Nat),∃ j:Nat,each (fun j a=>fun _=>Fw v j a) k l ()=.ok (if l.contains v then .inr (j:Int) else .inl ())
 | [],k=>⟨0,rfl⟩
 | a::l,k=>by
  rw [S0]
  by_cases h:v=a
  ·subst h; exact⟨k,by simp [Fw]⟩
  ·have h1:(v==a)=false:=by simpa using h
   obtain⟨j,hj⟩:=Ab6 v l (k+1)
   refine⟨j,?_⟩
   rw [show Fw v k a=.ok (.inl ()) by unfold Fw; rw [h1]; rfl,R.ok_bind,List.contains_cons,h1]
   exact hj
theorem Adl (l:List Int)(v:Int):Kv l v=.ok (l.contains v):=by
 unfold Kv Od
 obtain⟨j,hj⟩:=Ab6 v l 0
 rw [hj]
 cases h:l.contains v
 ·simp only [Bool.false_eq_true,if_false,R.ok_bind]; rfl
 ·simp only [if_true,R.ok_bind]
  simp
theorem Am5 (src:Aw)(p:Nat)(l:List Token)(some:List Int)(hp:p≤src.length)(hs:src.length≤65536) :
  Iu ({ fSrc:=src,fAt:=p,fL:=l }:T119) some=.ok ((src.drop p).takeWhile fun c=>some.contains (G8 c)):=by
 unfold Iu
 rw [Afv (src:=src) (q:=fun c=>some.contains (G8 c)) (k:=src.length - p) (p:=p) (fun n hn=>?_) hp rfl]
 ·simp only [R.ok_bind]
  unfold Lm
  have hle:=Rj (fun c=>some.contains (G8 c)) (src.drop p)
  rw [List.length_drop] at hle
  dsimp only
  rw [if_pos ⟨by omega,by omega,by omega⟩]
  simp only [Am8]
 ·unfold Lh
  by_cases hl:n<src.length
  ·have hi:(n:Int)<src.length:=by omega
   rw [List.getElem?_eq_getElem hl]
   simp only [hi,decide_true,if_true]
   rw [Af4 (List.getElem?_eq_getElem hl)]
   simp only [R.ok_bind,Ya,Adl]
   cases some.contains (G8 src[n])
   ·rfl
   ·simp only [if_true]
    rw [Aao (by omega) (by omega)]
    rfl
  ·have hi:¬ ((n:Int)<src.length):=by omega
   rw [List.getElem?_eq_none (by omega)]
   simp only [hi,decide_false,Bool.false_eq_true,if_false,R.ok_bind]
def Sv (s:Aw):Bool:=match s with | []=>false | c::w=>Na c&&w.all G3&&decide (w.length+1≤32)
theorem Acf {α:Type}{b:Nat→α→Unit→R (Unit ⊕ Bool)}{p:α→Bool}(hb : ∀ j a,b j a ()=if p a then .ok (.inl ()) else .ok (.inr false)) : ∀ (l:List α) (k:Nat),each b k l ()=.ok (if l.all p then .inl () else .inr false)
 | [],k=>rfl
 | a::l,k=>by
  rw [S0,hb]
  cases h:p a
  ·simp [h]
  ·simp [h,Acf hb l (k+1)]
theorem Ajf (c:UInt8):(((G8 c != 2)&&(G8 c != 3))&&(G8 c != 5)) = !G3 c:=by
 rw [← Ana]; simp [bne,Bool.not_or]
theorem Akj (s:Aw):Ru s=.ok (Sv s):=by
 unfold Ru Sv
 cases s with
 | nil=>rfl
 | cons c w=>
  simp only [show((c::w:Aw)==[])=false from rfl,Bool.false_or]
  by_cases h:w.length+1≤32
  ·have h1:¬ (((c::w).length:Int) > 32):=by simp only [List.length_cons]; omega
   have h2:(c::w).length≤Ek:=by simp only [List.length_cons,Ek]; omega
   simp only [h1,decide_false,Bool.false_eq_true,if_false,Aj5,R.ok_bind,Ya,h2,if_true,h,decide_true,Bool.and_true]
   cases hc:Na c
   ·rw [show(G8 c != 2)=true by rw [bne,Agu,hc]; rfl]; simp
   ·rw [show(G8 c != 2)=false by rw [bne,Agu,hc]; rfl]
    simp only [Bool.false_eq_true,if_false,Bool.true_and]
    rw [Acf (p:=G3) (fun j a=>by unfold O0; simp only [Ya,R.ok_bind,Ajf]; cases G3 a <;> rfl)]
    simp only [R.ok_bind,List.all_cons,Aei hc,Bool.true_and]
    cases w.all G3 <;> rfl
  ·have h1:((c::w).length:Int) > 32:=by simp only [List.length_cons]; omega
   simp only [h1,decide_true,if_true,R.ok_bind,h,decide_false,Bool.and_false]
end Go.Am
namespace Go.Am
open Go
set_option linter.unusedVariables false
set_option linter.unusedSimpArgs false
def Q9 (a:Nat)(s:Aw):Nat:=s.foldl (fun a c=>a * 10+(c.toNat - 48)) a
theorem Ws (a:Nat):Q9 a []=a:=rfl
theorem Mn (a:Nat)(c:UInt8)(s:Aw):Q9 a (c::s)=Q9 (a * 10+(c.toNat - 48)) s:=by unfold Q9; rw [List.foldl_cons]
theorem Zi : ∀ (s t:Aw) (a:Nat),Q9 a (s++t)=Q9 (Q9 a s) t
 | [],t,a=>rfl
 | c::s,t,a=>by rw [List.cons_append,Mn,Mn,Zi s t]
theorem Aa1 : ∀ (s:Aw) (a:Nat),a≤Q9 a s
 | [],a=>Nat.le_refl _
 | c::s,a=>by
  have:=Aa1 s (a * 10+(c.toNat - 48))
  rw [Mn]; omega
def val (s:Aw):Nat:=Q9 0 s
def Ua (s:Aw):Bool:=decide (s.length=1)||decide (s.head? ≠ some 48)
def Qy (s:Aw):Bool:=Ua s&&decide (val s≤1099511627776)
theorem Sf {c:UInt8}:D9 c=true↔48≤c.toNat∧c.toNat≤57:=by
 unfold D9
 simp only [Bool.and_eq_true,decide_eq_true_eq,UInt8.le_iff_toNat_le]
 rfl
theorem Ah0 (n:Nat)(h:n<10):D9 (UInt8.ofNat (48+n))=true∧(UInt8.ofNat (48+n)).toNat=48+n:=by
 have e:(UInt8.ofNat (48+n)).toNat=48+n:=by rw [UInt8.toNat_ofNat']; omega
 exact⟨Sf.2 (by omega),e⟩
theorem Ad9 {c:UInt8}(h:D9 c=true):UInt8.ofNat (48+(c.toNat - 48))=c:=by
 have:=Sf.1 h
 rw [show 48+(c.toNat - 48)=c.toNat by omega]; simp
theorem Afz (u:Nat):(Lib.decDigits u).all D9=true∧val (Lib.decDigits u)=u∧Lib.decDigits u≠[]∧Ua (Lib.decDigits u)=true∧(1≤u→(Lib.decDigits u).head? ≠ some 48):=by
 induction u using Nat.strongRecOn with
 | _ u ih=>
  by_cases h:u<10
  ·rw [Lib.decDigits_one h]
   obtain⟨h1,h2⟩:=Ah0 u h
   refine⟨by rw [List.all_cons,h1]; rfl,by unfold val; rw [Mn,Ws,h2]; omega,by simp,by simp [Ua],fun hu e=>?_⟩
   simp only [List.head?_cons,Option.some.injEq] at e
   rw [e] at h2
   have:(48:UInt8).toNat=48:=rfl
   omega
  ·rw [Lib.decDigits,dif_neg h]
   obtain⟨a1,a2,a3,a4,a5⟩:=ih (u / 10) (by omega)
   obtain⟨h1,h2⟩:=Ah0 (u % 10) (by omega)
   have hd:(Lib.decDigits (u / 10)++[UInt8.ofNat (48+u % 10)]).head? = (Lib.decDigits (u / 10)).head? := by
    cases hq:Lib.decDigits (u / 10) with
    | nil=>exact absurd hq a3
    | cons c w=>rfl
   refine⟨by rw [List.all_append,a1,List.all_cons,h1]; rfl,?_,by simp,?_,fun hu=>by rw [hd]; exact a5 (by omega)⟩
   ·unfold val at a2 ⊢
    rw [Zi,a2,Mn,Ws,h2]; omega
   ·have:=a5 (by omega)
    unfold Ua
    rw [hd]
    simp [this]
theorem Ag6 : ∀ (s:Aw),s≠[]→s.all D9=true→Ua s=true→Lib.decDigits (val s)=s:=by
 suffices H : ∀ (n:Nat) (s:Aw),s.length=n→s≠[]→s.all D9=true→Ua s=true→Lib.decDigits (val s)=s from fun s=>H _ s rfl
 intro n
 induction n with
 | zero=>intro s h1 h2; exact absurd (List.length_eq_zero_iff.1 h1) h2
 | succ n ih=>
  intro s h1 h2 h3 h4
  obtain⟨w,c,rfl⟩ : ∃ w c,s=w++[c]:=⟨s.dropLast,s.getLast h2,(List.dropLast_concat_getLast h2).symm⟩
  rw [List.all_append,Bool.and_eq_true] at h3
  obtain⟨h3,h5⟩:=h3
  have h5:D9 c=true:=by simpa using h5
  have hc:=Sf.1 h5
  have hv:val (w++[c])=val w * 10+(c.toNat - 48):=by unfold val; rw [Zi,Mn,Ws]
  by_cases hw:w=[]
  ·subst hw
   have h0:val []=0:=rfl
   rw [hv,h0,Lib.decDigits_one (by omega)]
   simp only [Nat.zero_mul,Nat.zero_add,List.nil_append]
   rw [Ad9 h5]
  ·obtain⟨d,w',rfl⟩ : ∃ d w',w=d::w':=by cases w with | nil=>exact absurd rfl hw | cons d w'=>exact⟨d,w',rfl⟩
   have hp:d≠48:=by
    intro e; subst e
    simp [Ua] at h4
   have hd:D9 d=true:=by simp at h3; exact h3.1
   have hd':=Sf.1 hd
   have h1v:1≤val (d::w'):=by
    have:=Aa1 w' (0 * 10+(d.toNat - 48))
    have h6:d.toNat≠48:=fun e=>hp (UInt8.toNat_inj.1 (by rw [e]; rfl))
    unfold val
    rw [Mn]
    omega
   have e0:Q9 0 (d::w')=val (d::w'):=rfl
   rw [hv,Lib.decDigits,dif_neg (by omega)]
   have e1:(val (d::w') * 10+(c.toNat - 48)) / 10=val (d::w'):=by omega
   have e2:(val (d::w') * 10+(c.toNat - 48)) % 10=c.toNat - 48:=by omega
   rw [e1,e2,Ad9 h5,ih (d::w') (by simpa using h1) hw h3 (by simp [Ua,hp])]
theorem Aeb : ∀ (s:Aw) (a:Nat),s.all D9=true→Q9 a s<18446744073709551616→Lib.parseUint10 a s=.ok (Q9 a s)
 | [],a,_,_=>rfl
 | c::s,a,h,hv=>by
  have h:D9 c=true∧s.all D9=true:=by simpa using h
  have hc:=Sf.1 h.1
  have hv':Q9 (a * 10+(c.toNat - 48)) s<18446744073709551616:=by rw [← Mn]; exact hv
  have:=Aa1 s (a * 10+(c.toNat - 48))
  rw [Lib.parseUint10,if_pos hc,if_neg (by omega),if_neg (by omega),Aeb s _ h.2 hv',Mn]
theorem Aci : ∀ (s:Aw) (a:Nat),a<18446744073709551616→s.all D9=true→18446744073709551616≤Q9 a s→Lib.parseUint10 a s=.range
 | [],a,ha,_,hv=>by exfalso; rw [Ws] at hv; omega
 | c::s,a,ha,h,hv=>by
  have h:D9 c=true∧s.all D9=true:=by simpa using h
  have hc:=Sf.1 h.1
  rw [Lib.parseUint10,if_pos hc]
  split
  ·rfl
  ·split
   ·rfl
   ·exact Aci s _ (by omega) h.2 (by rw [← Mn]; exact hv)
theorem Ajk {s:Aw}(hs:s≠[])(h:s.all D9=true):Lib.atoiAll s=if 9223372036854775808≤val s then .range else .ok (val s:Int):=by
 cases s with
 | nil=>exact absurd rfl hs
 | cons c s=>
  have hc:D9 c=true:=by simp at h; exact h.1
  have hc:=Sf.1 hc
  rw [Lib.atoiAll_plain c s (by omega) (by omega),Lib.parseMag,if_neg (by simp)]
  by_cases hv:val (c::s)<18446744073709551616
  ·rw [Aeb _ _ h hv]; rfl
  ·rw [Aci _ _ (by omega) h (Nat.le_of_not_lt hv),if_pos (by omega)]; rfl
end Go.Am
namespace Go.Am
open Go
set_option linter.unusedVariables false
set_option linter.unusedSimpArgs false
def tk (c:UInt8)(s:Aw):Option (Option Token×Nat):=
 if Jx c then some (none,0)
 else if Na c then
  if(s.takeWhile G3).length+1≤32 then some (some ⟨1,c::s.takeWhile G3,0,0⟩,(s.takeWhile G3).length) else none
 else if D9 c then
  if Qy (c::s.takeWhile D9) then some (some ⟨2,[],val (c::s.takeWhile D9),0⟩,(s.takeWhile D9).length) else none
 else if Qc c then
  if c=47∧s.head? = some 47 then some (none,(s.takeWhile (· != 10)).length)
  else some (some ⟨3,[c],0,0⟩,0)
 else none
def Zc (p:Nat)(t:Token):Token:={ t with At:=p }
inductive Lx where
 | ok (l:List Token)
 | wrong (e:Nat)
 deriving DecidableEq
def Lx.add (o:Option Token)(p:Nat):Lx→Lx
 | .ok l=>.ok ((o.map (Zc p)).toList++l)
 | .wrong e=>.wrong e
def Zm:Nat→Aw→Nat→Lx
 | _,[],_=>.ok []
 | 0,_::_,_=>.ok []
 | n+1,c::s,p=>match tk c s with
  | none=>.wrong p
  | some (o,k)=>(Zm n (s.drop k) (p+1+k)).add o p
def Kj (s:Aw)(p:Nat):Lx:=Zm s.length s p
theorem Adf : ∀ (n m:Nat) (s:Aw) (p:Nat),s.length≤n→s.length≤m→Zm n s p=Zm m s p
 | 0,0,s,p,_,_=>rfl
 | 0,m+1,s,p,h,_=>by
  have:s=[]:=List.length_eq_zero_iff.1 (by omega)
  subst this; rfl
 | n+1,0,s,p,_,h=>by
  have:s=[]:=List.length_eq_zero_iff.1 (by omega)
  subst this; rfl
 | n+1,m+1,[],p,_,_=>rfl
 | n+1,m+1,c::s,p,h1,h2=>by
  simp only [List.length_cons] at h1 h2
  rw [Zm,Zm]
  cases tk c s with
  | none=>rfl
  | some x=>
   obtain⟨o,k⟩:=x
   simp only
   rw [Adf n m (s.drop k) _ (by rw [List.length_drop]; omega) (by rw [List.length_drop]; omega)]
theorem Zl (p:Nat):Kj [] p=.ok []:=rfl
theorem Sr (c:UInt8)(s:Aw)(p:Nat):Kj (c::s) p=match tk c s with
  | none=>.wrong p
  | some (o,k)=>(Kj (s.drop k) (p+1+k)).add o p:=by
 unfold Kj
 rw [List.length_cons,Zm]
 cases tk c s with
 | none=>rfl
 | some x=>
  obtain⟨o,k⟩:=x
  simp only
  rw [Adf s.length (s.drop k).length (s.drop k) _ (by rw [List.length_drop]; omega) (Nat.le_refl _)]
@[simp] theorem Lx.add_none (p:Nat)(x:Lx):x.add none p=x:=by cases x <;> rfl
theorem Ano {c:UInt8}(s:Aw)(h:Jx c=true):tk c s=some (none,0):=by unfold tk; rw [if_pos h]
theorem Akb {c:UInt8}{s:Aw}{o:Option Token}{k:Nat}(ht:tk c s=some (o,k)):k≤s.length:=by
 have h1:=Rj G3 s
 have h2:=Rj D9 s
 have h3:=Rj (· != 10) s
 unfold tk at ht
 repeat' split at ht
 all_goals first | (cases ht; done) | (cases ht; assumption) | (cases ht; exact Nat.zero_le _)
theorem Zh : ∀ (w s:Aw) (p:Nat),w.all Jx=true→Kj (w++s) p=Kj s (p+w.length)
 | [],s,p,_=>rfl
 | c::w,s,p,h=>by
  have h:Jx c=true∧w.all Jx=true:=by simpa using h
  rw [List.cons_append,Sr,Ano _ h.1]
  simp only [List.drop_zero,Lx.add_none]
  rw [Zh w s _ h.2,List.length_cons]
  congr 1; omega
def out:Lx→List Token×Int×Int
 | .ok l=>(l,0,0)
 | .wrong e=>([],(e:Int),70)
def F5 (s:Aw):List Token×Int×Int:=if s.length≤65536 then out (Kj s 0) else([],0,2)
theorem We {α:Type}(q:α→Bool) : ∀ l:List α,(l.takeWhile q).all q=true
 | []=>rfl
 | a::l=>by
  rw [List.takeWhile_cons]
  cases h:q a
  ·rfl
  ·rw [if_pos rfl,List.all_cons,h,We q l]; rfl
theorem Afr {α:Type}(q:α→Bool)(l:List α):l.drop (l.takeWhile q).length=l.dropWhile q:=by
 induction l with
 | nil=>rfl
 | cons a l ih=>
  rw [List.takeWhile_cons,List.dropWhile_cons]
  cases q a
  ·rfl
  ·simpa using ih
theorem Ak0 {src:Aw}{p:Nat}{c:UInt8}{s:Aw}(h:src.drop p=c::s):P5 src (p:Int) ((p+1:Nat):Int)=[c]:=by
 unfold P5
 simp only [Int.toNat_natCast]
 rw [h,show p+1 - p=1 by omega]; rfl
theorem Ab5 {src:Aw}{p:Nat}{c:UInt8}{s:Aw}(h:src.drop p=c::s)(k:Nat):s.drop k=src.drop (p+1+k):=by
 have:src.drop (p+1)=s:=by rw [← List.drop_drop,h]; rfl
 rw [← this,List.drop_drop]
theorem Alv {src:Aw}{p:Nat}{c:UInt8}{s:Aw}(h:src.drop p=c::s):src[p]? = some c:=by
 have:=List.getElem?_drop (xs:=src) (i:=p) (j:=0)
 rw [h] at this
 simpa using this.symm
theorem Ads {src:Aw}{p:Nat}{c:UInt8}{s:Aw}(h:src.drop p=c::s):p+1+s.length=src.length:=by
 have:=congrArg List.length h
 rw [List.length_drop,List.length_cons] at this
 omega
theorem Aeg {c:UInt8}{w:Aw}(hc:Na c=true)(hw:w.all G3=true):Sv (c::w)=decide (w.length+1≤32):=by
 simp [Sv,hc,hw]
end Go.Am
namespace Go.Am
open Go
set_option linter.unusedVariables false
set_option linter.unusedSimpArgs false
theorem Ael (c:UInt8) : ∀ (l:Aw),Lib.indexByte l c=if(l.takeWhile (· != c)).length=l.length then -1 else((l.takeWhile (· != c)).length:Int)
 | []=>rfl
 | a::l=>by
  have ih:=Ael c l
  have hle:=Rj (· != c) l
  rw [Lib.indexByte,List.takeWhile_cons]
  by_cases h:a=c
  ·subst h; simp
  ·have h1:(a != c)=true:=bne_iff_ne.2 h
   have h2:(a==c)=false:=by simpa using h
   rw [ih,h1]
   simp only [h2,Bool.false_eq_true,if_false,if_true,List.length_cons,Nat.add_right_cancel_iff]
   by_cases hq:(l.takeWhile (· != c)).length=l.length
   ·simp [hq]
   ·simp only [hq,if_false]
    have:¬ (((l.takeWhile (· != c)).length:Int)<0):=by omega
    simp [this]
    try omega
theorem Aa5 {α:Type}[BEq α][LawfulBEq α][DecidableEq α](a b:α):(a==b)=decide (a=b):=by
 by_cases h:a=b <;> simp [h]
def Ul:Aw→Bool
 | [c]=>Qc c
 | _=>false
def Dj (t:Token):Bool:=if t.Kind==1 then Sv t.Text&&(t.N==0) else if t.Kind==2 then(t.Text==[])&&decide (t.N≥0)&&decide (t.N≤1099511627776) else if t.Kind==3 then Ul t.Text&&(t.N==0) else false
theorem Aoi (s:Aw):((s.length:Int)==1)=(s.length==1):=by
 rw [Aa5,Aa5,decide_eq_decide]; omega
theorem Anm (s:Aw){f:Int→R Bool}(hf : ∀ c:UInt8,f (c.toNat:Int)=.ok (Qc c)):(if((s.length:Int)==1) then(Ed s 0).bind fun a=>f (a.toNat:Int) else R.ok false)=.ok (Ul s):=by
 rw [Aoi]
 match s with
 | []=>rfl
 | [c]=>simp only [List.length_singleton,beq_self_eq_true,if_true,Aj5,R.ok_bind,hf]; rfl
 | c::d::w=>simp [Ul]
theorem Aem (t:Token):Qv t=.ok (Dj t):=by
 unfold Qv Dj
 rw [show(fun a:UInt8=>(Ki (a.toNat:Int)).bind fun r1=>R.ok (r1==4))=fun a:UInt8=>(fun n:Int=>(Ki n).bind fun r1=>R.ok (r1==4)) (a.toNat:Int) from rfl,
  Anm (f:=fun n:Int=>(Ki n).bind fun r1=>R.ok (r1==4)) t.Text (fun c=>by simp only [Ya,R.ok_bind,Ajx])]
 simp only [Akj,R.ok_bind]
 split
 ·rfl
 ·split
  ·rfl
  ·split <;> rfl
theorem Aen (text:Aw)(t:Token)(src:Aw)(p:Nat)(l:List Token)(hl:(l.length+1) * 40≤Ek) :
  Fy text t src p l=if Dj t then .ok (l++[Zc p t]) else .pan ⟨113,.int .i64 p⟩:=by
 unfold Fy
 rw [Aem,R.ok_bind]
 simp only [List.length_singleton]
 rw [if_pos hl]
 rfl
theorem Aej (n:Nat):Lib.itoa (n:Int)=Lib.decDigits n:=Lib.itoa_nonneg n
theorem Aiy {α:Type}{p q:α→Bool}(h : ∀ a,p a=q a)(l:List α):l.takeWhile p=l.takeWhile q:=by rw [show p=q from funext h]
theorem Abi {some:List Int}{q:UInt8→Bool}(h : ∀ c,some.contains (G8 c)=q c){src:Aw}{p:Nat}{l:List Token}(hp:p≤src.length)(hs:src.length≤65536) :
  Iu ({ fSrc:=src,fAt:=p,fL:=l }:T119) some=.ok ((src.drop p).takeWhile q):=by rw [Am5 src p l some hp hs,Aiy h]
def Abo (p:Nat)(pre:List Token)(c:UInt8)(s:Aw):R ((Int×(List Token)) ⊕ (Int×(List Token))):=
 if Jx c then .ok (.inl (((p+1+(s.takeWhile Jx).length:Nat):Int),pre))
 else match tk c s with
  | none=>.pan ⟨113,.int .i64 p⟩
  | some (o,k)=>.ok (.inl (((p+1+k:Nat):Int),pre++(o.map (Zc p)).toList))
theorem Aar {c:UInt8}{v:Int}(h:(G8 c==v)=true):G8 c=v:=eq_of_beq h
theorem Ahy (s:Aw):Mb s [47,47]=.ok (decide (s.take 2=[47,47])):=by
 unfold Mb G6
 by_cases h:2≤s.length
 ·have h1:(s.length:Int)≥(([47,47]:Aw).length:Int):=by simp; omega
  simp only [h1,decide_true,if_true]
  rw [if_pos ⟨by simp,trivial⟩]
  simp only [R.ok_bind]
  rw [Aa5]
  rfl
 ·have h1:¬ ((s.length:Int)≥(([47,47]:Aw).length:Int)):=by simp; omega
  simp only [h1,decide_false,Bool.false_eq_true,if_false,R.ok_bind]
  rw [decide_eq_false]
  intro e
  have:=congrArg List.length e
  simp at this
  omega
theorem Aic (src:Aw)(hs:src.length≤65536)(p:Nat)(pre:List Token)(c:UInt8)(s:Aw)(h:src.drop p=c::s)(hl:pre.length≤p) :
  Mi src (p:Int) pre=Abo p pre c s:=by
 have hlen:=Ads h
 have hat:=Alv h
 have hlim:(pre.length+1) * 40≤Ek:=by simp only [Ek]; omega
 unfold Mi Abo
 rw [if_pos (by omega),Af4 hat]
 simp only [R.ok_bind,Ya]
 have wr : ∀ k:Nat,k≤s.length→IntKind.wrap .i64 ((p:Int)+((k+1:Nat):Int))=((p+1+k:Nat):Int):=by
  intro k hk; rw [Aao (by omega) (by omega)]; omega
 cases hsp:Jx c
 ·simp only [Bool.false_eq_true,if_false]
  unfold tk
  simp only [hsp,Bool.false_eq_true,if_false]
  cases hle:Na c
  ·simp only [Bool.false_eq_true,if_false]
   cases hfi:D9 c
   ·simp only [Bool.false_eq_true,if_false]
    cases hsi:Qc c
    ·have h1:G8 c≠1:=fun e=>by rw [← Aiq,e] at hsp; cases hsp
     have h2:G8 c≠2:=fun e=>by rw [← Agu,e] at hle; cases hle
     have h3:G8 c≠3:=fun e=>by rw [← Aix,e] at hfi; cases hfi
     have h4:G8 c≠4:=fun e=>by rw [← Ajx,e] at hsi; cases hsi
     rcases Aog c with e | e | e | e | e | e
     ·rw [e]; rfl
     ·exact absurd e h1
     ·exact absurd e h2
     ·exact absurd e h3
     ·exact absurd e h4
     ·rw [e]; rfl
    ·have hc:G8 c=4:=Aar (by rw [Ajx,hsi])
     rw [hc]
     simp only [show ¬ ((4:Int)=0) by decide,show ¬ ((4:Int)=1) by decide,show ¬ ((4:Int)=2) by decide,show ¬ ((4:Int)=3) by decide,if_false,if_true]
     unfold Lg
     rw [if_pos ⟨by omega,by omega⟩]
     simp only [Int.toNat_natCast]
     rw [Ahy,R.ok_bind,h]
     have e2:(decide ((c::s).take 2=[47,47]))=decide (c=47∧s.head? = some 47):=by
      cases s with
      | nil=>simp
      | cons d w=>simp
     rw [e2]
     by_cases hcom:c=47∧s.head? = some 47
     ·simp only [hcom,and_self,decide_true,if_true]
      obtain⟨rfl,hhd⟩:=hcom
      rw [if_pos ⟨by omega,by omega⟩]
      unfold strings_IndexByte
      rw [show((10:Int).toNat.toUInt8)=10 from rfl,Ael,List.takeWhile_cons,show((47:UInt8) != 10)=true by decide,if_pos rfl]
      have hle:=Rj (· != 10) s
      simp only [List.length_cons,Nat.add_right_cancel_iff,R.ok_bind]
      by_cases hall:(s.takeWhile (· != 10)).length=s.length
      ·rw [if_pos hall,if_neg (by omega)]
       simp only [R.ok_bind,hall]
       rw [hlen]; simp
      ·rw [if_neg hall,if_pos (by omega),wr _ hle]
       simp
     ·simp only [hcom,decide_false,Bool.false_eq_true,if_false]
      have hw1:IntKind.wrap .i64 ((p:Int)+1)=((p+1:Nat):Int):=by rw [Aao (by omega) (by omega)]; rfl
      rw [hw1,Ak0 h,if_pos ⟨by omega,by omega,by omega⟩,Aen _ _ _ _ _ hlim]
      have hv:Dj ({ Kind:=3,Text:=[c],N:=0,At:=0 }:Token)=true:=by
       show Ul [c]&&true=true
       simp [Ul,hsi]
      rw [hv]
      simp only [if_true,R.ok_bind]
      have:=wr 0 (Nat.zero_le _)
      simp only [List.length_singleton]
      rw [show((1:Nat):Int)=((0+1:Nat):Int) from rfl,this]
      rfl
   ·have hc:G8 c=3:=Aar (by rw [Aix,hfi])
    rw [hc]
    simp only [show ¬ ((3:Int)=0) by decide,show ¬ ((3:Int)=1) by decide,show ¬ ((3:Int)=2) by decide,if_false,if_true]
    unfold J4
    rw [Abi (q:=D9) (fun c=>by rw [← Aix]; simp only [List.contains_cons,List.contains_nil,Bool.or_false]) (by omega) hs,h,List.takeWhile_cons,hfi,if_pos rfl]
    have hall:(c::s.takeWhile D9).all D9=true:=by rw [List.all_cons,hfi,We]; rfl
    have hle:=Rj D9 s
    simp only [R.ok_bind]
    unfold N7
    rw [if_pos (by simp only [List.length_cons]; omega),Ajk (by simp) hall]
    generalize hg:c::s.takeWhile D9=g
    have hg1:g≠[]:=by rw [← hg]; simp
    rw [hg] at hall
    have hgl:g.length=(s.takeWhile D9).length+1:=by rw [← hg]; rfl
    by_cases hbig:9223372036854775808≤val g
    ·rw [if_pos hbig]
     have:Qy g=false:=by unfold Qy; rw [decide_eq_false (by omega:¬ val g≤1099511627776),Bool.and_false]
     rw [this]
     rfl
    ·rw [if_neg hbig]
     simp only [R.ok_bind,Bool.false_eq_true,if_false]
     unfold strconv_Itoa
     rw [if_pos ⟨by omega,by omega⟩,Aej]
     simp only [R.ok_bind]
     have hdd:=Afz (val g)
     by_cases hpl:Ua g=true
     ·rw [Ag6 g hg1 hall hpl]
      simp only [beq_self_eq_true,Bool.not_true,Bool.false_eq_true,if_false]
      rw [Aen _ _ _ _ _ hlim]
      have hv:Dj ({ Kind:=2,Text:=[],N:=(val g:Int),At:=0 }:Token)=Qy g:=by
       unfold Qy; rw [hpl]
       simp only [Dj]
       rw [if_neg (by decide),if_pos (by decide),decide_eq_true (by omega:(val g:Int)≥0),Bool.true_and]
       show(true&&decide ((val g:Int)≤1099511627776))=_
       rw [Bool.true_and,decide_eq_decide]
       omega
      rw [hv]
      cases Qy g
      ·rfl
      ·simp only [if_true,R.ok_bind]
       rw [hgl,wr _ hle]
       rfl
     ·have hne:(Lib.decDigits (val g)==g)=false:=by
       rw [beq_eq_false_iff_ne]; intro e; rw [e] at hdd; exact hpl hdd.2.2.2.1
      rw [hne]
      have:Qy g=false:=by unfold Qy; rw [Bool.eq_false_iff.2 hpl,Bool.false_and]
      rw [this]
      rfl
  ·have hc:G8 c=2:=Aar (by rw [Agu,hle])
   rw [hc]
   simp only [show ¬ ((2:Int)=0) by decide,show ¬ ((2:Int)=1) by decide,if_false,if_true]
   unfold Lr
   rw [Abi (q:=G3) (fun c=>by rw [← Ana]; simp only [List.contains_cons,List.contains_nil,Bool.or_false,Bool.or_assoc]) (by omega) hs,h,List.takeWhile_cons,Aei hle,if_pos rfl]
   simp only [R.ok_bind]
   rw [Aen _ _ _ _ _ hlim]
   have hv:Dj ({ Kind:=1,Text:=c::s.takeWhile G3,N:=0,At:=0 }:Token)=decide ((s.takeWhile G3).length+1≤32):=by
    show(Sv (c::s.takeWhile G3)&&true)=_
    rw [Bool.and_true]
    exact Aeg hle (We _ _)
   rw [hv]
   have hle':=Rj G3 s
   by_cases hn:(s.takeWhile G3).length+1≤32
   ·simp only [hn,decide_true,if_true,R.ok_bind,List.length_cons]
    rw [wr _ hle']
    rfl
   ·simp only [hn,decide_false,Bool.false_eq_true,if_false,R.pan_bind]
 ·have hc:G8 c=1:=Aar (by rw [Aiq,hsp])
  rw [hc]
  simp only [show ¬ ((1:Int)=0) by decide,if_false,if_true]
  unfold Kx
  rw [Abi (q:=Jx) (fun c=>by rw [← Aiq]; simp only [List.contains_cons,List.contains_nil,Bool.or_false]) (by omega) hs,h,List.takeWhile_cons,hsp,if_pos rfl]
  simp only [R.ok_bind,List.length_cons]
  rw [wr _ (Rj Jx s)]
def Z1 (n:Nat)(pre:List Token):Lx→R (Int×List Token)
 | .ok l=>.ok ((n:Int),pre++l)
 | .wrong e=>.pan ⟨113,.int .i64 (e:Int)⟩
theorem Ain (src:Aw)(hs:src.length≤65536) : ∀ (n p:Nat) (pre:List Token),src.length - p≤n→p≤src.length→pre.length≤p →
  loop (Cy fun fAt l=>Mi src fAt l) ((p:Int),pre)=Z1 src.length pre (Kj (src.drop p) p):=by
 have hend : ∀ (p:Nat) (pre:List Token),src.drop p=[]→p≤src.length→loop (Cy fun fAt l=>Mi src fAt l) ((p:Int),pre)=Z1 src.length pre (Kj (src.drop p) p):=by
  intro p pre e hp
  have:src.length≤p:=by have:=congrArg List.length e; rw [List.length_drop] at this; simp at this; omega
  rw [Sa,e,Zl]
  simp only [Cy]
  unfold Mi
  rw [if_neg (by omega)]
  simp only [R.ok_bind,Z1,List.append_nil]
  rw [show p=src.length by omega]
 intro n
 induction n with
 | zero=>intro p pre hn hp hl; exact hend p pre (List.drop_eq_nil_of_le (by omega)) hp
 | succ n ih=>
  intro p pre hn hp hl
  cases hd:src.drop p with
  | nil=>rw [← hd]; exact hend p pre hd hp
  | cons c s=>
   rw [Sa]
   simp only [Cy]
   rw [Aic src hs p pre c s hd hl]
   have hlen:=Ads hd
   unfold Abo
   cases hsp:Jx c
   ·simp only [Bool.false_eq_true,if_false]
    rw [Sr]
    cases ht:tk c s with
    | none=>rfl
    | some x=>
     obtain⟨o,k⟩:=x
     have hk:k≤s.length:=Akb ht
     have hol:(o.map (Zc p)).toList.length≤1:=by cases o <;> simp
     have:=ih (p+1+k) (pre++(o.map (Zc p)).toList) (by omega) (by omega) (by rw [List.length_append]; omega)
     simp only [R.ok_bind]
     rw [← Ab5 hd k] at this
     refine this.trans ?_
     cases Kj (s.drop k) (p+1+k) <;> simp [Z1,Lx.add]
   ·simp only [if_true,R.ok_bind]
    have hle:=Rj Jx s
    have:=ih (p+1+(s.takeWhile Jx).length) pre (by omega) (by omega) (by omega)
    rw [← Ab5 hd] at this
    refine this.trans ?_
    congr 1
    have e:=Zh (c::s.takeWhile Jx) (s.drop (s.takeWhile Jx).length) p (by rw [List.all_cons,hsp,We]; rfl)
    rw [Afr,List.cons_append,List.takeWhile_append_dropWhile,List.length_cons] at e
    rw [e,Afr]
    congr 1
    omega
theorem Ahk (s:Aw):Vy s=.ok (F5 s):=by
 unfold Vy Vm F5
 by_cases h:s.length≤65536
 ·rw [if_neg (by omega),if_pos h,show((0:Int),([]:List Token))=(((0:Nat):Int),[]) from rfl,Ain s h s.length 0 [] (by omega) (by omega) (by simp)]
  simp only [List.drop_zero]
  cases Kj s 0 <;> rfl
 ·rw [if_pos (by omega),if_neg h]
  rfl
end Go.Am
namespace Go.Am
open Go
set_option linter.unusedVariables false
set_option linter.unusedSimpArgs false
abbrev PR (α:Type):=Except (List Token×Int) (α×List Token)
abbrev Rd (α:Type):=List Token→PR α
namespace Rd
variable {α β:Type}
def bind (p:Rd α)(f:α→Rd β):Rd β:=fun l=>match p l with
 | .error x=>.error x
 | .ok (a,r)=>f a r
def pure (a:α):Rd α:=fun l=>.ok (a,l)
def fail (e:Int):Rd α:=fun l=>.error (l,e)
end Rd
def Nz (q:Token→Bool):Rd Token
 | []=>.error ([],80)
 | t::r=>if q t then .ok (t,r) else .error (t::r,80)
def Xs (k:Int)(w:Aw)(t:Token):Bool:=t.Kind==k&&t.Text==w
def rIs (k:Int)(w:Aw):Rd Bool
 | []=>.ok (false,[])
 | t::r=>.ok (Xs k w t,t::r)
def Ajn (lo hi st:Int)(t:Token):Bool:=t.Kind==2&&(decide (lo≤t.N)&&(decide (t.N≤hi)&&(Int.tmod t.N st==0)))
def O6:Rd Aw:=(Nz fun t=>t.Kind==1).bind fun t=>.pure t.Text
def Ox (k:Int)(w:Aw):Rd Unit:=(Nz (Xs k w)).bind fun _=>.pure ()
def O2 (lo hi st:Int):Rd Int:=(Nz (Ajn lo hi st)).bind fun t=>.pure t.N
def Qa:Rd Span:=(O2 0 1439 1).bind fun a=>(Ox 1 [116,111]).bind fun _=>(O2 (a+1) 1440 1).bind fun b=>.pure ⟨a,b⟩
def Gt {α:Type}(p:Rd α):Nat→List α→Rd (List α)
 | n,acc=>p.bind fun a=>(rIs 3 [44]).bind fun b=>if b then(match n with
  | 0=>.fail 2
  | n+1=>(Ox 3 [44]).bind fun _=>Gt p n (acc++[a])) else .pure (acc++[a])
def Aa7 (E:Int):List Token→Int
 | []=>E
 | t::_=>t.At
def run {α:Type}(E:Int):PR α→R (α×List Token)
 | .ok x=>.ok x
 | .error (l,e)=>.pan ⟨64,.two .i64 .i64 (Aa7 E l) e⟩
theorem Ac0 {α:Type}(E:Int)(x:α×List Token):run E (.ok x:PR α)=.ok x:=rfl
def Lp {α:Type}(E:Int)(k:Nat)(l:List Token)(x:R α)(p:Rd α):Prop:=(x=(run E (p l)).bind fun y=>.ok y.1) ∧ ∀ a r,p l=.ok (a,r)→r=l.drop k
section
variable {α β:Type} {E:Int} {k:Nat} {l:List Token} {p:Rd α}
theorem Iy {x:R α}{H:α→R (β×List Token)}{f:α→Rd β}(hx:Lp E k l x p)(h : ∀ a,p l=.ok (a,l.drop k)→H a=run E (f a (l.drop k))):x.bind H=run E (p.bind f l):=by
 obtain⟨rfl,h2⟩:=hx
 unfold Rd.bind
 cases hp:p l with
 | error x=>rfl
 | ok y=>
  obtain⟨a,r⟩:=y
  have:=h2 a r hp
  subst this
  exact h a hp
theorem Qo {x:R (α×List Token)}{H:α×List Token→R (β×List Token)}{f:α→Rd β}(hx:x=run E (p l))(h : ∀ a r,p l=.ok (a,r)→H (a,r)=run E (f a r)):x.bind H=run E (p.bind f l):=by
 subst hx
 unfold Rd.bind
 cases hp:p l with
 | error x=>rfl
 | ok y=>exact h _ _ hp
theorem Lz {m n:Nat}{x:R α}{H:α→R β}{f:α→Rd β}{l':List Token}(hn:n=k+m)(hl:l'=l.drop k)(hx:Lp E k l x p)(h : ∀ a,p l=.ok (a,l')→Lp E m l' (H a) (f a)):Lp E n l (x.bind H) (p.bind f):=by
 subst hl hn
 obtain⟨rfl,h2⟩:=hx
 unfold Lp Rd.bind
 cases hp:p l with
 | error x=>exact⟨rfl,fun _ _ h=>nomatch h⟩
 | ok y=>
  obtain⟨a,r⟩:=y
  have:=h2 a r hp
  subst this
  obtain⟨h3,h4⟩:=h a hp
  refine⟨h3,fun b r hr=>?_⟩
  rw [h4 b r hr,List.drop_drop]
theorem Pw (a:α):Lp E 0 l (.ok a) (Rd.pure a):=⟨rfl,fun _ _ h=>by cases h; rfl⟩
end
theorem Jc (e:Int)(l:List Token)(E:Int):Bj e l E=.pan ⟨64,.two .i64 .i64 (Aa7 E l) e⟩:=by
 unfold Bj
 cases l with
 | nil=>rfl
 | cons t l=>rw [if_pos (by simp only [List.length_cons]; omega)]; rfl
theorem Afm (r:T67)(e:Int):Ll r e=.pan ⟨64,.two .i64 .i64 (Aa7 r.fEnd r.fL) e⟩:=by
 unfold Ll
 cases h:r.fL with
 | nil=>rfl
 | cons t l=>rw [if_pos (by simp only [List.length_cons]; omega)]; rfl
theorem Wk (kind:Int)(q:Token→Bool)(l:List Token)(E:Int)(j:R Token)(hj:j=((Ed l 0).bind fun a2=>if(0:Int)≤1∧1≤(l.length:Int) then .ok a2 else .bad))  (c:Token→R Bool)(hc : ∀ t,c t=.ok (q t)) :
  ((if((l.length:Int)==0) then R.ok true else(Ed l 0).bind fun a=>R.ok (a.Kind != kind)).bind (fun(b:Bool)=>(if b then R.ok true else(Ed l 0).bind fun a1=>(c a1).bind fun r=>R.ok (!r)).bind (fun(b1:Bool)=>if b1 then((Bj 80 l E).bind fun _=>j) else j)))
   = (run E (Nz (fun t=>t.Kind==kind&&q t) l)).bind fun y=>.ok y.1:=by
 subst hj
 cases l with
 | nil=>rfl
 | cons t l=>
  have e:Ed (t::l) 0=.ok t:=rfl
  have e0:(((t::l).length:Int)==0)=false:=by simp only [List.length_cons,beq_eq_false_iff_ne]; omega
  have e1:(0:Int)≤1∧1≤((t::l).length:Int):=by simp only [List.length_cons]; omega
  simp only [e,e0,R.ok_bind,hc,Jc,Nz,if_pos e1,Bool.false_eq_true,if_false]
  by_cases hk:t.Kind=kind
  ·have h1:(t.Kind==kind)=true:=by simp [hk]
   have h2:(t.Kind != kind)=false:=by simp [hk]
   simp only [h1,h2,Bool.false_eq_true,if_false,R.ok_bind,Bool.true_and]
   cases q t <;> rfl
  ·have h1:(t.Kind==kind)=false:=by simp [hk]
   have h2:(t.Kind != kind)=true:=by simp [hk]
   simp only [h1,h2,if_true,R.ok_bind,Bool.false_and]
   rfl
theorem Ahl {q:Token→Bool}{l:List Token}{a:Token}{r:List Token}(h:Nz q l=.ok (a,r)):r=l.drop 1:=by
 cases l with
 | nil=>cases h
 | cons t l=>
  simp only [Nz] at h
  split at h
  ·cases h; rfl
  ·cases h
theorem X7 {α:Type}{E:Int}{l:List Token}{q:Token→Bool}{x:R Token}(f:Token→α)(hx:x=(run E (Nz q l)).bind fun y=>.ok y.1):Lp E 1 l (x.bind fun r=>.ok (f r)) ((Nz q).bind fun t=>.pure (f t)):=by
 subst hx
 unfold Lp Rd.bind
 cases h:Nz q l with
 | error x=>exact⟨rfl,fun _ _ h=>nomatch h⟩
 | ok y=>exact⟨rfl,fun a r h'=>by cases h'; exact Ahl h⟩
theorem Qp (E:Int)(l:List Token):Lp E 1 l (B0 l E) O6:=by
 have:=X7 (E:=E) (l:=l) (fun t=>t.Text) (Wk 1 (fun _=>true) l E _ rfl Je (fun _=>rfl))
 simp only [Bool.and_true] at this
 exact this
theorem Lt (E:Int)(w:Aw)(l:List Token):Lp E 1 l (Ct w l E) (Ox 1 w):=
 X7 (E:=E) (l:=l) (fun _=>()) (Wk 1 (fun t=>t.Text==w) l E _ rfl (fun t=>Jl t w) (fun _=>rfl))
theorem Vw (E:Int)(w:Aw)(l:List Token):Lp E 1 l (B6 w l E) (Ox 3 w):=
 X7 (E:=E) (l:=l) (fun _=>()) (Wk 3 (fun t=>t.Text==w) l E _ rfl (fun t=>Jj t w) (fun _=>rfl))
theorem Ann (n:Int):(Int.tmod n 1==0)=true:=by simp
theorem Mm (E lo hi:Int)(l:List Token):Lp E 1 l (C7 lo hi l E) (O2 lo hi 1):=by
 have:=X7 (E:=E) (l:=l) (fun t=>t.N) (Wk 2 (fun t=>decide (lo≤t.N)&&(decide (t.N≤hi)&&(Int.tmod t.N 1==0))) l E _ rfl (fun t=>Gf t lo hi) (fun t=>by simp only [Gf,Ann,Bool.and_true]))
 exact this
theorem Agg (k:Int)(w:Aw)(l:List Token)(E:Int):E5 k w l E=.ok (match l with | []=>false | t::_=>Xs k w t):=by
 unfold E5
 cases l with
 | nil=>rfl
 | cons t l=>
  have e:Ed (t::l) 0=.ok t:=rfl
  have e0:decide (((t::l).length:Int) > 0)=true:=by simp only [List.length_cons,decide_eq_true_eq]; omega
  simp only [e,e0,R.ok_bind,if_true,Xs]
  cases t.Kind==k <;> rfl
theorem Afo {q:Token→Bool}{l:List Token}{a:Token}{r:List Token}(h:Nz q l=.ok (a,r)):l=a::r∧q a=true:=by
 cases l with
 | nil=>cases h
 | cons t l=>
  simp only [Nz] at h
  split at h
  ·rename_i hq; cases h; exact⟨rfl,hq⟩
  ·cases h
theorem Agp {α β:Type}{p:Rd α}{f:α→Rd β}{l:List Token}{b:β}{r:List Token}(h:p.bind f l=.ok (b,r)) : ∃ a m,p l=.ok (a,m)∧f a m=.ok (b,r):=by
 unfold Rd.bind at h
 cases hp:p l with
 | error x=>rw [hp] at h; cases h
 | ok y=>rw [hp] at h; exact⟨y.1,y.2,rfl,h⟩
theorem Akm {lo hi st:Int}{l:List Token}{a:Int}{r:List Token}(h:O2 lo hi st l=.ok (a,r)) : ∃ t,l=t::r∧t.Kind=2∧t.N=a∧lo≤a∧a≤hi∧Int.tmod a st=0:=by
 obtain⟨t,m,h1,h2⟩:=Agp h
 cases h2
 obtain⟨rfl,hq⟩:=Afo h1
 simp only [Ajn,Bool.and_eq_true,decide_eq_true_eq,beq_iff_eq] at hq
 exact⟨t,rfl,hq.1,rfl,hq.2.1,hq.2.2.1,hq.2.2.2⟩
theorem Acx (E:Int)(l:List Token):Lp E 3 l (Gy l E) Qa:=by
 refine Lz (m:=2) rfl rfl (Mm E 0 1439 l) fun a ha=>?_
 refine Lz (m:=1) rfl rfl (Lt E _ _) fun _ _=>?_
 have e:IntKind.wrap .i64 (a+1)=a+1:=by
  obtain⟨t,_,_,_,h1,h2,_⟩:=Akm ha
  exact Aao (by omega) (by omega)
 rw [e]
 exact Lz (m:=0) rfl rfl (Mm E (a+1) 1440 _) fun b _=>Pw _
end Go.Am
namespace Go.Am
open Go
set_option linter.unusedVariables false
set_option linter.unusedSimpArgs false
def V6 (w:Aw):Rd (List Span):=(rIs 1 w).bind fun b=>if b then(Ox 1 w).bind fun _=>Gt Qa 15 [] else .pure []
def Wh:Rd Mode:=(Ox 1 [109,111,100,101]).bind fun _=>O6.bind fun n=>(O2 0 64 1).bind fun k=>.pure { Name:=n,Places:=k }
def Abc (s:Aw):Rd Volume:=(V6 [99,108,111,115,101,100]).bind fun c=>.pure { Name:=s,Closed:=c }
def Abl (s:Aw):Rd Sector:=(Ox 3 [61]).bind fun _=>(Gt O6 63 []).bind fun ns=>(Ox 1 [114,97,100,97,114]).bind fun _=>(O2 0 64 1).bind fun a=>
 (Ox 1 [112,114,111,99,101,100,117,114,97,108]).bind fun _=>(O2 0 a 1).bind fun b=>.pure { Name:=s,Names:=ns,Volumes:=[],Radar:=a,Procedural:=b }
def Aaw (s:Aw):Rd Config:=(Ox 3 [61]).bind fun _=>(Gt O6 63 []).bind fun ns=>.pure { Name:=s,Names:=ns,Sectors:=[] }
def Abq (s:Aw):Rd Segment:=(Ox 1 [105,110]).bind fun _=>O6.bind fun v=>(Ox 1 [108,101,110,103,116,104]).bind fun _=>(O2 1 4096 1).bind fun k=>
 (V6 [111,112,101,110]).bind fun o=>.pure { Name:=s,In:=v,Volume:=0,Length:=k,Open:=o }
def Aav (s:Aw):Rd Route:=(Ox 1 [102,114,111,109]).bind fun _=>O6.bind fun a=>(Ox 1 [116,111]).bind fun _=>O6.bind fun b=>(Ox 1 [118,105,97]).bind fun _=>
 (Gt O6 7 []).bind fun ns=>.pure { Name:=s,A:=a,B:=b,From:=0,To:=0,Names:=ns,Segments:=[] }
def Abe (s:Aw):Rd Airport:=(Gt Wh 15 []).bind fun ms=>.pure { Name:=s,Modes:=ms }
def Abf (s:Aw):Rd Class:=(Ox 1 [115,108,111,119]).bind fun _=>(O2 1 64 1).bind fun a=>(Ox 1 [102,97,115,116]).bind fun _=>(O2 a 64 1).bind fun b=>
 (Ox 1 [112,108,97,99,101,115]).bind fun _=>(O2 1 8 1).bind fun c=>.pure { Name:=s,Slow:=a,Fast:=b,Places:=c }
def Ut (k:Int)(c a:Aw)(n:Int)(h:Span):Rule:={ Kind:=k,C:=c,A:=a,Class:=0,Airport:=0,N:=n,Hours:=h }
def Aa4 (s:Aw):Rd Rule:=(Ox 1 [97,116]).bind fun _=>O6.bind fun a=>Qa.bind fun h=>.pure (Ut 1 s a 0 h)
def Ade (s:Aw):Rd Rule:=.pure (Ut 2 s [] 0 ⟨0,0⟩)
def Abp (s:Aw):Rd Rule:=(O2 1 8 1).bind fun n=>.pure (Ut 3 s [] n ⟨0,0⟩)
def Zr (s:Aw):Rd Rule:=(O2 0 60 10).bind fun n=>.pure (Ut 4 s [] n ⟨0,0⟩)
def F4 {α:Type}(p:Aw→Rd α):Rd α:=O6.bind fun n=>(p n).bind fun x=>(Ox 3 [59]).bind fun _=>.pure x
section
variable {α:Type} {E:Int}
theorem Yf {k sz most:Nat}{G:List Token→R α}{p:Rd α}(hG : ∀ l,Lp E k l (G l) p){b:List Token×List α→R ((List Token×List α) ⊕ (List α×List Token))}
  (hb : ∀ fL l1,b (fL,l1)=(G fL).bind fun r=>if(l1.length+1) * sz≤Ek then(E5 3 [44] (fL.drop k) E).bind fun r1=>if r1 then(if(((l1++[r]).length:Int)==most) then .pan ⟨64,.two .i64 .i64 (Aa7 E (fL.drop k)) 2⟩ else(B6 [44] (fL.drop k) E).bind fun _=>.ok (.inl ((fL.drop k).drop 1,l1++[r]))) else .ok (.inr (l1++[r],fL.drop k)) else .bad)
  (hs:most * sz≤Ek) : ∀ (n:Nat) (l:List Token) (acc:List α),acc.length+n+1=most→loop b (l,acc)=run E (Gt p n acc l):=by
 intro n
 induction n with
 | zero=>
  intro l acc hn
  rw [Sa,hb,Gt]
  obtain⟨h1,h2⟩:=hG l
  rw [h1]
  unfold Rd.bind
  cases hp:p l with
  | error x=>rfl
  | ok y=>
   obtain⟨a,r⟩:=y
   have:=h2 a r hp; subst this
   have e1:(acc.length+1) * sz≤Ek:=Nat.le_trans (Nat.mul_le_mul_right _ (by omega)) hs
   have e2:(((acc++[a]).length:Int)==most)=true:=by simp; omega
   simp only [Ac0,R.ok_bind,if_pos e1,Agg,e2,if_true]
   cases l.drop k with
   | nil=>rfl
   | cons t r=>
    cases h:Xs 3 [44] t <;> simp only [rIs,h,Bool.false_eq_true,if_false,if_true,R.ok_bind,R.pan_bind] <;> rfl
 | succ n ih=>
  intro l acc hn
  rw [Sa,hb,Gt]
  obtain⟨h1,h2⟩:=hG l
  rw [h1]
  unfold Rd.bind
  cases hp:p l with
  | error x=>rfl
  | ok y=>
   obtain⟨a,r⟩:=y
   have:=h2 a r hp; subst this
   have e1:(acc.length+1) * sz≤Ek:=Nat.le_trans (Nat.mul_le_mul_right _ (by omega)) hs
   have e2:(((acc++[a]).length:Int)==most)=false:=by simp; omega
   simp only [Ac0,R.ok_bind,if_pos e1,Agg,e2,Bool.false_eq_true,if_false]
   have e3:=(Vw E [44] (l.drop k)).1
   cases hd:l.drop k with
   | nil=>rfl
   | cons t r=>
    cases h:Xs 3 [44] t
    ·simp only [rIs,h,Bool.false_eq_true,if_false,R.ok_bind]; rfl
    ·rw [hd] at e3
     have e4:Ox 3 [44] (t::r)=.ok ((),r):=by simp only [Ox,Rd.bind,Nz,h,if_true]; rfl
     simp only [rIs,h,if_true,e3,e4,Ac0,R.ok_bind,List.drop_one,List.tail_cons]
     exact ih r (acc++[a]) (by simp; omega)
end
theorem Adu (E:Int)(l:List Token)(v:List Volume):Em 16 l E v=run E (Gt Qa 15 [] l):=by
 unfold Em
 rw [Yf (k:=3) (sz:=16) (most:=16) (G:=fun l=>Gy l E) (p:=Qa) (Acx E) (fun fL l1=>?_) (by decide) 15 l [] rfl,R.bind_ok]
 simp only [Cy,Fs,Fv,Jc,R.pan_bind,List.length_singleton,List.drop_drop]
 all_goals rfl
theorem Akq (E:Int)(l:List Token):Lp E 3 l (Fc l E) Wh:=
 Lz (m:=2) rfl rfl (Lt E _ l) fun _ _=>Lz (m:=1) rfl rfl (Qp E _) fun _ _=>Lz (m:=0) rfl rfl (Mm E 0 64 _) fun _ _=>Pw _
theorem Aev (E:Int)(l:List Token)(v:List Volume):Gg 16 l E v=run E (Gt Wh 15 [] l):=by
 unfold Gg
 rw [Yf (k:=3) (sz:=24) (most:=16) (G:=fun l=>Fc l E) (p:=Wh) (Akq E) (fun fL l1=>?_) (by decide) 15 l [] rfl,R.bind_ok]
 simp only [Cy,Gm,Gj,Jc,R.pan_bind,List.length_singleton,List.drop_drop]
 all_goals rfl
theorem Vs (E:Int)(m:Nat)(hm:(m+1) * 16≤Ek)(l:List Token)(v:List Volume):D1 ((m+1:Nat):Int) l E v=run E (Gt O6 m [] l):=by
 unfold D1
 rw [Yf (k:=1) (sz:=16) (most:=m+1) (G:=fun l=>B0 l E) (p:=O6) (Qp E) (fun fL l1=>?_) hm m l [] (by simp),R.bind_ok]
 simp only [Cy,Fm,Fo,Jc,R.pan_bind,List.length_singleton,List.drop_drop]
 all_goals rfl
end Go.Am
namespace Go.Am
open Go
set_option linter.unusedVariables false
set_option linter.unusedSimpArgs false
def Ud (w:Aw)(A:Airspace):Option (Bool×Rd Airspace):=
 if w==[97,105,114,112,111,114,116] then some (decide (16≤A.Airports.length),(F4 Abe).bind fun x=>.pure { A with Airports:=A.Airports++[x] }) else
 if w==[99,108,97,115,115] then some (decide (8≤A.Classes.length),(F4 Abf).bind fun x=>.pure { A with Classes:=A.Classes++[x] }) else
 if w==[99,111,110,102,105,103] then some (decide (32≤A.Configs.length),(F4 Aaw).bind fun x=>.pure { A with Configs:=A.Configs++[x] }) else
 if w==[99,117,114,102,101,119] then some (decide (64≤A.Rules.length),(F4 Aa4).bind fun x=>.pure { A with Rules:=A.Rules++[x] }) else
 if w==[101,120,101,109,112,116] then some (decide (64≤A.Rules.length),(F4 Ade).bind fun x=>.pure { A with Rules:=A.Rules++[x] }) else
 if w==[108,111,110,103,101,115,116] then some (decide (64≤A.Rules.length),(F4 Zr).bind fun x=>.pure { A with Rules:=A.Rules++[x] }) else
 if w==[114,111,117,116,101] then some (decide (64≤A.Routes.length),(F4 Aav).bind fun x=>.pure { A with Routes:=A.Routes++[x] }) else
 if w==[115,101,99,116,111,114] then some (decide (64≤A.Sectors.length),(F4 Abl).bind fun x=>.pure { A with Sectors:=A.Sectors++[x] }) else
 if w==[115,101,103,109,101,110,116] then some (decide (128≤A.Segments.length),(F4 Abq).bind fun x=>.pure { A with Segments:=A.Segments++[x] }) else
 if w==[118,111,108,117,109,101] then some (decide (64≤A.Volumes.length),(F4 Abc).bind fun x=>.pure { A with Volumes:=A.Volumes++[x] }) else
 if w==[119,101,105,103,104,116] then some (decide (64≤A.Rules.length),(F4 Abp).bind fun x=>.pure { A with Rules:=A.Rules++[x] }) else
 none
def Rc (A:Airspace):Rd Airspace
 | []=>.error ([],80)
 | t::r=>if t.Kind==1 then(match Ud t.Text A with
  | none=>.error (t::r,80)
  | some (f,p)=>if f then .error (t::r,2) else p r) else .error (t::r,80)
theorem Acs (w:Aw)(E:Int)(l:List Token)(v:List Volume):F6 w l E v=run E (V6 w l):=by
 unfold F6 V6
 rw [Agg]
 cases l with
 | nil=>rfl
 | cons t r=>
  show(if Xs 1 w t=true then _ else _)=run E ((if Xs 1 w t=true then(Ox 1 w).bind fun _=>Gt Qa 15 [] else .pure []) (t::r))
  split
  ·refine Iy (Lt E w _) fun _ _=>?_
   rw [show(Em 16 (List.drop 1 (t::r)) E v)=run E (Gt Qa 15 [] (List.drop 1 (t::r))) from Adu E _ v]
   cases Gt Qa 15 [] (List.drop 1 (t::r)) <;> rfl
  ·rfl
theorem Amu (s:Aw)(E:Int)(l:List Token)(v:List Volume):Eu s l E v=run E (Abc s l):=by
 unfold Eu Abc
 exact Qo (Acs _ E l v) fun a r _=>rfl
theorem Amt (s:Aw)(E:Int)(l:List Token)(v:List Volume):Ev s l E v=run E (Abl s l):=by
 unfold Ev Abl
 refine Iy (Vw E _ l) fun _ _=>Qo (Vs E 63 (by decide) _ v) fun ns r _=>?_
 exact Iy (Lt E _ r) fun _ _=>Iy (Mm E 0 64 _) fun a _=>Iy (Lt E _ _) fun _ _=>Iy (Mm E 0 a _) fun b _=>rfl
theorem Am0 (s:Aw)(E:Int)(l:List Token)(v:List Volume):Ep s l E v=run E (Aaw s l):=by
 unfold Ep Aaw
 exact Iy (Vw E _ l) fun _ _=>Qo (Vs E 63 (by decide) _ v) fun ns r _=>rfl
theorem Anb (s:Aw)(E:Int)(l:List Token)(v:List Volume):Es s l E v=run E (Abq s l):=by
 unfold Es Abq
 refine Iy (Lt E _ l) fun _ _=>Iy (Qp E _) fun a _=>Iy (Lt E _ _) fun _ _=>Iy (Mm E 1 4096 _) fun b _=>?_
 exact Qo (Acs _ E _ v) fun o r _=>rfl
theorem Ami (s:Aw)(E:Int)(l:List Token)(v:List Volume):Er s l E v=run E (Aav s l):=by
 unfold Er Aav
 refine Iy (Lt E _ l) fun _ _=>Iy (Qp E _) fun a _=>Iy (Lt E _ _) fun _ _=>Iy (Qp E _) fun b _=>Iy (Lt E _ _) fun _ _=>?_
 exact Qo (Vs E 7 (by decide) _ v) fun o r _=>rfl
theorem Ang (s:Aw)(E:Int)(l:List Token)(v:List Volume):Et s l E v=run E (Abe s l):=by
 unfold Et Abe
 exact Qo (Aev E l v) fun ms r _=>rfl
theorem Aid (s:Aw)(E:Int)(l:List Token):Lp E 6 l (E8 s l E) (Abf s):=
 Lz (m:=5) rfl rfl (Lt E _ l) fun _ _=>Lz (m:=4) rfl rfl (Mm E 1 64 _) fun a _=>Lz (m:=3) rfl rfl (Lt E _ _) fun _ _=>Lz (m:=2) rfl rfl (Mm E a 64 _) fun b _=>
  Lz (m:=1) rfl rfl (Lt E _ _) fun _ _=>Lz (m:=0) rfl rfl (Mm E 1 8 _) fun b _=>Pw _
theorem Abh {α:Type}{E:Int}{k:Nat}{l:List Token}{x:R α}{p:Rd α}(h:Lp E k l x p):Lp E k l (x.bind fun r=>.ok r) p:=by rw [R.bind_ok]; exact h
theorem Ahm (s:Aw)(E:Int)(l:List Token):Lp E 5 l (Fh s 1 l E) (Aa4 s):=
 Abh<|Lz (m:=4) rfl rfl (Lt E _ l) fun _ _=>Lz (m:=3) rfl rfl (Qp E _) fun a _=>Lz (m:=0) rfl rfl (Acx E _) fun h _=>Pw _
theorem Aha (s:Aw)(E:Int)(l:List Token):Lp E 1 l (Fe s 3 l E) (Abp s):=
 Abh<|Lz (m:=0) rfl rfl (Mm E 1 8 l) fun _ _=>Pw _
theorem Aib (s:Aw)(E:Int)(l:List Token)(hl : ∀ t ∈ l,0≤t.N):Lp E 1 l (Fi s 4 l E) (Zr s):=by
 have hn:Lp E 1 l ((Gc 2 l E).bind fun r=>.ok r.N) (O2 0 60 10):=by
  have h:=X7 (E:=E) (l:=l) (fun t=>t.N) (Wk 2 (fun t=>decide (t.N≤60)&&(Int.tmod t.N 10==0)) l E _ rfl F3 (fun _=>rfl))
  have e:((Nz fun t=>t.Kind==2&&(decide (t.N≤60)&&(Int.tmod t.N 10==0))).bind fun t=>Rd.pure t.N) l=O2 0 60 10 l:=by
   unfold O2 Rd.bind
   cases l with
   | nil=>rfl
   | cons t l=>
    have h0:decide (0≤t.N)=true:=decide_eq_true (hl t (List.mem_cons_self ..))
    simp only [Nz,Ajn,h0,Bool.true_and]
  unfold Lp at h ⊢
  rw [e] at h
  exact h
 have:Lp E (1+0) l (((Gc 2 l E).bind fun r=>.ok r.N).bind fun n=>.ok (Ut 4 s [] n ⟨0,0⟩)) (Zr s):=Lz rfl rfl hn fun _ _=>Pw _
 rw [R.bind_assoc] at this
 exact Abh this
section
variable {α β:Type} {E:Int}
theorem Uj {item:Aw→List Token→R (α×List Token)}{p:Aw→Rd α}(hi : ∀ s l,item s l=run E (p s l))(acc:List α)(sz:Nat)(h:(acc.length+1) * sz≤Ek)(l:List Token) :
  ((B0 l E).bind fun r1=>(item r1 (l.drop 1)).bind fun r2=>(B6 [59] r2.2 E).bind fun _=>if(acc.length+[r2.1].length) * sz≤Ek then R.ok ((r2.2.drop 1),acc++[r2.1]) else .bad)=(run E (F4 p l)).bind fun x=>.ok (x.2,acc++[x.1]):=by
 have e:((B0 l E).bind fun r1=>(item r1 (l.drop 1)).bind fun r2=>(B6 [59] r2.2 E).bind fun _=>R.ok (r2.1,r2.2.drop 1))=run E (F4 p l):=
  Iy (Qp E l) fun a _=>Qo (hi a _) fun x r _=>Iy (Vw E _ r) fun _ _=>rfl
 rw [← e]
 simp only [R.bind_assoc,R.ok_bind,List.length_singleton,if_pos h]
theorem Qd {k:Nat}{item:Aw→R α}{p:Aw→Rd α}(acc:List α)(sz:Nat)(h:(acc.length+1) * sz≤Ek)(l:List Token)(hi : ∀ s,Lp E k (l.drop 1) (item s) (p s)) :
  ((B0 l E).bind fun r1=>(item r1).bind fun r2=>(B6 [59] ((l.drop 1).drop k) E).bind fun _=>if(acc.length+[r2].length) * sz≤Ek then R.ok (acc++[r2]) else .bad)=((run E (F4 p l)).bind fun x=>.ok (acc++[x.1])) ∧ ∀ x r,F4 p l=.ok (x,r)→r=l.drop (k+2):=by
 have e:Lp E (k+2) l ((B0 l E).bind fun r1=>(item r1).bind fun r2=>(B6 [59] ((l.drop 1).drop k) E).bind fun _=>R.ok r2) (F4 p):=
  Lz (m:=k+1) (by omega) rfl (Qp E l) fun a _=>Lz (m:=1) rfl rfl (hi a) fun x _=>Lz (m:=0) rfl rfl (Vw E _ _) fun _ _=>Pw _
 refine⟨?_,e.2⟩
 have e1:=congrArg (fun z=>R.bind z fun x=>R.ok (acc++[x])) e.1
 simp only [R.bind_assoc,R.ok_bind] at e1
 rw [← e1]
 simp only [List.length_singleton,if_pos h]
end
end Go.Am
namespace Go.Am
open Go
set_option linter.unusedVariables false
set_option linter.unusedSimpArgs false
theorem Akd (E:Int)(t:Token)(r:List Token)(v:List Volume)(acc:List Airport)(h:acc.length≤16):Ic (t::r) E v acc=if 16≤acc.length then .pan ⟨64,.two .i64 .i64 t.At 2⟩ else(run E (F4 Abe r)).bind fun x=>.ok (x.2,acc++[x.1]):=by
 show(Ge 16 (t::r) E v acc).bind (fun r=>.ok r)=_
 rw [R.bind_ok]
 unfold Ge Gl
 by_cases hf:16≤acc.length
 ·have e:((acc.length:Int)==16)=true:=by rw [beq_iff_eq]; omega
  rw [if_pos hf]
  simp only [e,if_true,Jc,R.pan_bind]
  rfl
 ·have e:((acc.length:Int)==16)=false:=by rw [beq_eq_false_iff_ne]; omega
  have e1:(0:Int)≤1∧1≤((t::r).length:Int):=by simp only [List.length_cons]; omega
  rw [if_neg hf]
  simp only [e,Bool.false_eq_true,if_false,if_pos e1]
  exact Uj (E:=E) (item:=fun s l=>Et s l E v) (fun s l=>Ang s E l v) acc 40 (by unfold Ek; omega) r
theorem Ame (E:Int)(t:Token)(r:List Token)(acc:List Class)(h:acc.length≤8):H2 (t::r) E acc=if 8≤acc.length then .pan ⟨64,.two .i64 .i64 t.At 2⟩ else(run E (F4 Abf r)).bind fun x=>.ok (acc++[x.1]):=by
 show(Ha 8 (t::r) E acc).bind (fun r=>.ok r)=_
 rw [R.bind_ok]
 unfold Ha Hi
 by_cases hf:8≤acc.length
 ·have e:((acc.length:Int)==8)=true:=by rw [beq_iff_eq]; omega
  rw [if_pos hf]
  simp only [e,if_true,Jc,R.pan_bind]
  rfl
 ·have e:((acc.length:Int)==8)=false:=by rw [beq_eq_false_iff_ne]; omega
  have e1:(0:Int)≤1∧1≤((t::r).length:Int):=by simp only [List.length_cons]; omega
  rw [if_neg hf]
  simp only [e,Bool.false_eq_true,if_false,if_pos e1]
  have q:=(Qd (E:=E) (k:=6) (item:=fun s=>E8 s (r.drop 1) E) acc 40 (by unfold Ek; omega) r (fun s=>Aid s E _)).1
  have ee:Int.toNat 1=1:=rfl
  simp only [ee,List.drop_drop,Nat.reduceAdd] at q ⊢
  exact q
theorem Ala (E:Int)(t:Token)(r:List Token)(v:List Volume)(acc:List Config)(h:acc.length≤32):Ib (t::r) E v acc=if 32≤acc.length then .pan ⟨64,.two .i64 .i64 t.At 2⟩ else(run E (F4 Aaw r)).bind fun x=>.ok (x.2,acc++[x.1]):=by
 show(Gu 32 (t::r) E v acc).bind (fun r=>.ok r)=_
 rw [R.bind_ok]
 unfold Gu G2
 by_cases hf:32≤acc.length
 ·have e:((acc.length:Int)==32)=true:=by rw [beq_iff_eq]; omega
  rw [if_pos hf]
  simp only [e,if_true,Jc,R.pan_bind]
  rfl
 ·have e:((acc.length:Int)==32)=false:=by rw [beq_eq_false_iff_ne]; omega
  have e1:(0:Int)≤1∧1≤((t::r).length:Int):=by simp only [List.length_cons]; omega
  rw [if_neg hf]
  simp only [e,Bool.false_eq_true,if_false,if_pos e1]
  exact Uj (E:=E) (item:=fun s l=>Ep s l E v) (fun s l=>Am0 s E l v) acc 64 (by unfold Ek; omega) r
theorem Ak7 (E:Int)(t:Token)(r:List Token)(acc:List Rule)(h:acc.length≤64):H6 (t::r) E acc=if 64≤acc.length then .pan ⟨64,.two .i64 .i64 t.At 2⟩ else(run E (F4 Aa4 r)).bind fun x=>.ok (acc++[x.1]):=by
 show((Ho 64 (t::r) E acc 1).bind (fun r=>.ok r)).bind (fun r=>.ok r)=_
 rw [R.bind_ok,R.bind_ok]
 unfold Ho H1
 by_cases hf:64≤acc.length
 ·have e:((acc.length:Int)==64)=true:=by rw [beq_iff_eq]; omega
  rw [if_pos hf]
  simp only [e,if_true,Jc,R.pan_bind]
  rfl
 ·have e:((acc.length:Int)==64)=false:=by rw [beq_eq_false_iff_ne]; omega
  have e1:(0:Int)≤1∧1≤((t::r).length:Int):=by simp only [List.length_cons]; omega
  rw [if_neg hf]
  simp only [e,Bool.false_eq_true,if_false,if_pos e1]
  have q:=(Qd (E:=E) (k:=5) (item:=fun s=>Fh s 1 (r.drop 1) E) acc 80 (by unfold Ek; omega) r (fun s=>Ahm s E _)).1
  have ee:Int.toNat 1=1:=rfl
  simp only [ee,List.drop_drop,Nat.reduceAdd] at q ⊢
  exact q
theorem Ak6 (E:Int)(t:Token)(r:List Token)(acc:List Rule)(h:acc.length≤64):H3 (t::r) E acc=if 64≤acc.length then .pan ⟨64,.two .i64 .i64 t.At 2⟩ else(run E (F4 Ade r)).bind fun x=>.ok (acc++[x.1]):=by
 show((Hq 64 (t::r) E acc 2).bind (fun r=>.ok r)).bind (fun r=>.ok r)=_
 rw [R.bind_ok,R.bind_ok]
 unfold Hq Ia
 by_cases hf:64≤acc.length
 ·have e:((acc.length:Int)==64)=true:=by rw [beq_iff_eq]; omega
  rw [if_pos hf]
  simp only [e,if_true,Jc,R.pan_bind]
  rfl
 ·have e:((acc.length:Int)==64)=false:=by rw [beq_eq_false_iff_ne]; omega
  have e1:(0:Int)≤1∧1≤((t::r).length:Int):=by simp only [List.length_cons]; omega
  rw [if_neg hf]
  simp only [e,Bool.false_eq_true,if_false,if_pos e1]
  exact(Qd (E:=E) (k:=0) (item:=fun s=>(Gd s 2).bind fun _=>.ok (Ut 2 s [] 0 ⟨0,0⟩)) acc 80 (by unfold Ek; omega) r (fun s=>Pw _)).1
theorem Amf (E:Int)(t:Token)(r:List Token)(hl : ∀ x ∈ r,0≤x.N)(acc:List Rule)(h:acc.length≤64):Hj (t::r) E acc=if 64≤acc.length then .pan ⟨64,.two .i64 .i64 t.At 2⟩ else(run E (F4 Zr r)).bind fun x=>.ok (acc++[x.1]):=by
 show((Ht 64 (t::r) E acc 4).bind (fun r=>.ok r)).bind (fun r=>.ok r)=_
 rw [R.bind_ok,R.bind_ok]
 unfold Ht H8
 by_cases hf:64≤acc.length
 ·have e:((acc.length:Int)==64)=true:=by rw [beq_iff_eq]; omega
  rw [if_pos hf]
  simp only [e,if_true,Jc,R.pan_bind]
  rfl
 ·have e:((acc.length:Int)==64)=false:=by rw [beq_eq_false_iff_ne]; omega
  have e1:(0:Int)≤1∧1≤((t::r).length:Int):=by simp only [List.length_cons]; omega
  rw [if_neg hf]
  simp only [e,Bool.false_eq_true,if_false,if_pos e1]
  have q:=(Qd (E:=E) (k:=1) (item:=fun s=>Fi s 4 (r.drop 1) E) acc 80 (by unfold Ek; omega) r (fun s=>Aib s E _ (fun x hx=>hl x (List.mem_of_mem_drop hx)))).1
  have ee:Int.toNat 1=1:=rfl
  simp only [ee,List.drop_drop,Nat.reduceAdd] at q ⊢
  exact q
theorem Alw (E:Int)(t:Token)(r:List Token)(v:List Volume)(acc:List Route)(h:acc.length≤64):H9 (t::r) E v acc=if 64≤acc.length then .pan ⟨64,.two .i64 .i64 t.At 2⟩ else(run E (F4 Aav r)).bind fun x=>.ok (x.2,acc++[x.1]):=by
 show(Hd 64 (t::r) E v acc).bind (fun r=>.ok r)=_
 rw [R.bind_ok]
 unfold Hd Hf
 by_cases hf:64≤acc.length
 ·have e:((acc.length:Int)==64)=true:=by rw [beq_iff_eq]; omega
  rw [if_pos hf]
  simp only [e,if_true,Jc,R.pan_bind]
  rfl
 ·have e:((acc.length:Int)==64)=false:=by rw [beq_eq_false_iff_ne]; omega
  have e1:(0:Int)≤1∧1≤((t::r).length:Int):=by simp only [List.length_cons]; omega
  rw [if_neg hf]
  simp only [e,Bool.false_eq_true,if_false,if_pos e1]
  exact Uj (E:=E) (item:=fun s l=>Er s l E v) (fun s l=>Ami s E l v) acc 112 (by unfold Ek; omega) r
theorem Ak3 (E:Int)(t:Token)(r:List Token)(v:List Volume)(acc:List Sector)(h:acc.length≤64):H5 (t::r) E v acc=if 64≤acc.length then .pan ⟨64,.two .i64 .i64 t.At 2⟩ else(run E (F4 Abl r)).bind fun x=>.ok (x.2,acc++[x.1]):=by
 show(Gq 64 (t::r) E v acc).bind (fun r=>.ok r)=_
 rw [R.bind_ok]
 unfold Gq G1
 by_cases hf:64≤acc.length
 ·have e:((acc.length:Int)==64)=true:=by rw [beq_iff_eq]; omega
  rw [if_pos hf]
  simp only [e,if_true,Jc,R.pan_bind]
  rfl
 ·have e:((acc.length:Int)==64)=false:=by rw [beq_eq_false_iff_ne]; omega
  have e1:(0:Int)≤1∧1≤((t::r).length:Int):=by simp only [List.length_cons]; omega
  rw [if_neg hf]
  simp only [e,Bool.false_eq_true,if_false,if_pos e1]
  exact Uj (E:=E) (item:=fun s l=>Ev s l E v) (fun s l=>Amt s E l v) acc 80 (by unfold Ek; omega) r
theorem Alr (E:Int)(t:Token)(r:List Token)(v:List Volume)(acc:List Segment)(h:acc.length≤128):H7 (t::r) E v acc=if 128≤acc.length then .pan ⟨64,.two .i64 .i64 t.At 2⟩ else(run E (F4 Abq r)).bind fun x=>.ok (x.2,acc++[x.1]):=by
 show(Gb 128 (t::r) E v acc).bind (fun r=>.ok r)=_
 rw [R.bind_ok]
 unfold Gb Gn
 by_cases hf:128≤acc.length
 ·have e:((acc.length:Int)==128)=true:=by rw [beq_iff_eq]; omega
  rw [if_pos hf]
  simp only [e,if_true,Jc,R.pan_bind]
  rfl
 ·have e:((acc.length:Int)==128)=false:=by rw [beq_eq_false_iff_ne]; omega
  have e1:(0:Int)≤1∧1≤((t::r).length:Int):=by simp only [List.length_cons]; omega
  rw [if_neg hf]
  simp only [e,Bool.false_eq_true,if_false,if_pos e1]
  exact Uj (E:=E) (item:=fun s l=>Es s l E v) (fun s l=>Anb s E l v) acc 72 (by unfold Ek; omega) r
theorem Al8 (E:Int)(t:Token)(r:List Token)(acc:List Volume)(h:acc.length≤64):H4 (t::r) E acc=if 64≤acc.length then .pan ⟨64,.two .i64 .i64 t.At 2⟩ else(run E (F4 Abc r)).bind fun x=>.ok (x.2,acc++[x.1]):=by
 show(Gs 64 (t::r) E acc).bind (fun r=>.ok r)=_
 rw [R.bind_ok]
 unfold Gs G7
 by_cases hf:64≤acc.length
 ·have e:((acc.length:Int)==64)=true:=by rw [beq_iff_eq]; omega
  rw [if_pos hf]
  simp only [e,if_true,Jc,R.pan_bind]
  rfl
 ·have e:((acc.length:Int)==64)=false:=by rw [beq_eq_false_iff_ne]; omega
  have e1:(0:Int)≤1∧1≤((t::r).length:Int):=by simp only [List.length_cons]; omega
  rw [if_neg hf]
  simp only [e,Bool.false_eq_true,if_false,if_pos e1]
  exact Uj (E:=E) (item:=fun s l=>Eu s l E acc) (fun s l=>Amu s E l acc) acc 40 (by unfold Ek; omega) r
theorem Ale (E:Int)(t:Token)(r:List Token)(acc:List Rule)(h:acc.length≤64):Hl (t::r) E acc=if 64≤acc.length then .pan ⟨64,.two .i64 .i64 t.At 2⟩ else(run E (F4 Abp r)).bind fun x=>.ok (acc++[x.1]):=by
 show((Hs 64 (t::r) E acc 3).bind (fun r=>.ok r)).bind (fun r=>.ok r)=_
 rw [R.bind_ok,R.bind_ok]
 unfold Hs H0
 by_cases hf:64≤acc.length
 ·have e:((acc.length:Int)==64)=true:=by rw [beq_iff_eq]; omega
  rw [if_pos hf]
  simp only [e,if_true,Jc,R.pan_bind]
  rfl
 ·have e:((acc.length:Int)==64)=false:=by rw [beq_eq_false_iff_ne]; omega
  have e1:(0:Int)≤1∧1≤((t::r).length:Int):=by simp only [List.length_cons]; omega
  rw [if_neg hf]
  simp only [e,Bool.false_eq_true,if_false,if_pos e1]
  have q:=(Qd (E:=E) (k:=1) (item:=fun s=>Fe s 3 (r.drop 1) E) acc 80 (by unfold Ek; omega) r (fun s=>Aha s E _)).1
  have ee:Int.toNat 1=1:=rfl
  simp only [ee,List.drop_drop,Nat.reduceAdd] at q ⊢
  exact q
end Go.Am
namespace Go.Am
open Go
set_option linter.unusedVariables false
set_option linter.unusedSimpArgs false
def tup (x:Airspace×List Token):List Token×List Volume×List Sector×List Config×List Segment×List Route×List Airport×List Class×List Rule:=
 (x.2,x.1.Volumes,x.1.Sectors,x.1.Configs,x.1.Segments,x.1.Routes,x.1.Airports,x.1.Classes,x.1.Rules)
def Abd (A:Airspace):Prop:=A.Volumes.length≤64∧A.Sectors.length≤64∧A.Configs.length≤32∧A.Segments.length≤128∧A.Routes.length≤64∧A.Airports.length≤16∧A.Classes.length≤8∧A.Rules.length≤64
section
variable {α β:Type} {E:Int} {t:Token} {r:List Token} {acc:List α} {c:Prop} [Decidable c] {p:Aw→Rd α} {upd:α→Airspace}
theorem Sd {x:R (List Token×List α)}{F:List Token×List α→R (List Token×List Volume×List Sector×List Config×List Segment×List Route×List Airport×List Class×List Rule)}
  (hx:x=if c then .pan ⟨64,.two .i64 .i64 t.At 2⟩ else(run E (F4 p r)).bind fun y=>.ok (y.2,acc++[y.1])) (hF : ∀ y l,F (l,acc++[y])=.ok (tup (upd y,l))) :
  x.bind F=(run E (if decide c=true then .error (t::r,2) else((F4 p).bind fun y=>.pure (upd y)) r)).bind fun z=>.ok (tup z):=by
 subst hx
 by_cases hc:c
 ·rw [if_pos hc,if_pos (decide_eq_true hc)]; rfl
 ·rw [if_neg hc,if_neg (by simpa using hc)]
  unfold Rd.bind
  cases F4 p r with
  | error e=>rfl
  | ok y=>exact hF _ _
theorem V4 {m:Nat}{x:R (List α)}{F:List α→R (List Token×List Volume×List Sector×List Config×List Segment×List Route×List Airport×List Class×List Rule)}
  (hx:x=if c then .pan ⟨64,.two .i64 .i64 t.At 2⟩ else(run E (F4 p r)).bind fun y=>.ok (acc++[y.1])) (hr : ∀ y q,F4 p r=.ok (y,q)→q=r.drop m) (hF : ∀ y,F (acc++[y])=.ok (tup (upd y,r.drop m))) :
  x.bind F=(run E (if decide c=true then .error (t::r,2) else((F4 p).bind fun y=>.pure (upd y)) r)).bind fun z=>.ok (tup z):=by
 subst hx
 by_cases hc:c
 ·rw [if_pos hc,if_pos (decide_eq_true hc)]; rfl
 ·rw [if_neg hc,if_neg (by simpa using hc)]
  unfold Rd.bind
  cases h:F4 p r with
  | error e=>rfl
  | ok y=>
   obtain⟨y,q⟩:=y
   have:=hr y q h
   subst this
   exact hF _
end
theorem Aiv (r:List Token) : ∀ x q,F4 Abf r=.ok (x,q)→q=r.drop 8:=
 (Qd (E:=0) (k:=6) (item:=fun s=>E8 s (r.drop 1) 0) ([]:List Class) 80 (by decide) r (fun s=>Aid s 0 _)).2
theorem Ajw (r:List Token) : ∀ x q,F4 Aa4 r=.ok (x,q)→q=r.drop 7:=
 (Qd (E:=0) (k:=5) (item:=fun s=>Fh s 1 (r.drop 1) 0) ([]:List Rule) 80 (by decide) r (fun s=>Ahm s 0 _)).2
theorem Ai9 (r:List Token) : ∀ x q,F4 Ade r=.ok (x,q)→q=r.drop 2:=
 (Qd (E:=0) (k:=0) (item:=fun s=>(Gd s 2).bind fun _=>.ok (Ut 2 s [] 0 ⟨0,0⟩)) ([]:List Rule) 80 (by decide) r (fun s=>Pw _)).2
theorem Aj0 (r:List Token)(hl : ∀ x ∈ r,0≤x.N) : ∀ x q,F4 Zr r=.ok (x,q)→q=r.drop 3:=
 (Qd (E:=0) (k:=1) (item:=fun s=>Fi s 4 (r.drop 1) 0) ([]:List Rule) 80 (by decide) r (fun s=>Aib s 0 _ (fun x hx=>hl x (List.mem_of_mem_drop hx)))).2
theorem Ai3 (r:List Token) : ∀ x q,F4 Abp r=.ok (x,q)→q=r.drop 3:=
 (Qd (E:=0) (k:=1) (item:=fun s=>Fe s 3 (r.drop 1) 0) ([]:List Rule) 80 (by decide) r (fun s=>Aha s 0 _)).2
theorem Aly (E:Int)(A:Airspace)(hA:Abd A)(t:Token)(r:List Token)(hl : ∀ x ∈ r,0≤x.N):Fb (t::r) E A.Volumes A.Sectors A.Configs A.Segments A.Routes A.Airports A.Classes A.Rules=(run E (Rc A (t::r))).bind fun x=>.ok (tup x):=by
 obtain⟨hVolumes,hSectors,hConfigs,hSegments,hRoutes,hAirports,hClasses,hRules⟩:=hA
 have e:Ed (t::r) 0=.ok t:=rfl
 have e1:Rc A (t::r)=(if(t.Kind==1)=true then(match Ud t.Text A with | none=>.error (t::r,80) | some (f,p)=>if f=true then .error (t::r,2) else p r) else .error (t::r,80)):=rfl
 rw [e1]
 unfold Fb Ud
 rw [e,R.ok_bind]
 by_cases hk:(t.Kind==1)=true
 ·rw [if_pos hk,if_pos hk]
  by_cases hair:(t.Text==[97,105,114,112,111,114,116])=true
  ·rw [if_pos hair,if_pos hair]
   exact Sd (upd:=fun x=>{ A with Airports:=A.Airports++[x] }) (Akd E t r A.Volumes A.Airports hAirports) (fun _ _=>rfl)
  rw [if_neg hair,if_neg hair]
  by_cases hcla:(t.Text==[99,108,97,115,115])=true
  ·rw [if_pos hcla,if_pos hcla]
   exact V4 (upd:=fun x=>{ A with Classes:=A.Classes++[x] }) (Ame E t r A.Classes hClasses) (Aiv r) (fun _=>by simp only [show Int.toNat 1=1 from rfl,List.drop_drop,Nat.reduceAdd]; rfl)
  rw [if_neg hcla,if_neg hcla]
  by_cases hcon:(t.Text==[99,111,110,102,105,103])=true
  ·rw [if_pos hcon,if_pos hcon]
   exact Sd (upd:=fun x=>{ A with Configs:=A.Configs++[x] }) (Ala E t r A.Volumes A.Configs hConfigs) (fun _ _=>rfl)
  rw [if_neg hcon,if_neg hcon]
  by_cases hcur:(t.Text==[99,117,114,102,101,119])=true
  ·rw [if_pos hcur,if_pos hcur]
   exact V4 (upd:=fun x=>{ A with Rules:=A.Rules++[x] }) (Ak7 E t r A.Rules hRules) (Ajw r) (fun _=>by simp only [show Int.toNat 1=1 from rfl,List.drop_drop,Nat.reduceAdd]; rfl)
  rw [if_neg hcur,if_neg hcur]
  by_cases hexe:(t.Text==[101,120,101,109,112,116])=true
  ·rw [if_pos hexe,if_pos hexe]
   exact V4 (upd:=fun x=>{ A with Rules:=A.Rules++[x] }) (Ak6 E t r A.Rules hRules) (Ai9 r) (fun _=>by simp only [show Int.toNat 1=1 from rfl,List.drop_drop,Nat.reduceAdd]; rfl)
  rw [if_neg hexe,if_neg hexe]
  by_cases hlon:(t.Text==[108,111,110,103,101,115,116])=true
  ·rw [if_pos hlon,if_pos hlon]
   exact V4 (upd:=fun x=>{ A with Rules:=A.Rules++[x] }) (Amf E t r hl A.Rules hRules) (Aj0 r hl) (fun _=>by simp only [show Int.toNat 1=1 from rfl,List.drop_drop,Nat.reduceAdd]; rfl)
  rw [if_neg hlon,if_neg hlon]
  by_cases hrou:(t.Text==[114,111,117,116,101])=true
  ·rw [if_pos hrou,if_pos hrou]
   exact Sd (upd:=fun x=>{ A with Routes:=A.Routes++[x] }) (Alw E t r A.Volumes A.Routes hRoutes) (fun _ _=>rfl)
  rw [if_neg hrou,if_neg hrou]
  by_cases hsec:(t.Text==[115,101,99,116,111,114])=true
  ·rw [if_pos hsec,if_pos hsec]
   exact Sd (upd:=fun x=>{ A with Sectors:=A.Sectors++[x] }) (Ak3 E t r A.Volumes A.Sectors hSectors) (fun _ _=>rfl)
  rw [if_neg hsec,if_neg hsec]
  by_cases hseg:(t.Text==[115,101,103,109,101,110,116])=true
  ·rw [if_pos hseg,if_pos hseg]
   exact Sd (upd:=fun x=>{ A with Segments:=A.Segments++[x] }) (Alr E t r A.Volumes A.Segments hSegments) (fun _ _=>rfl)
  rw [if_neg hseg,if_neg hseg]
  by_cases hvol:(t.Text==[118,111,108,117,109,101])=true
  ·rw [if_pos hvol,if_pos hvol]
   exact Sd (upd:=fun x=>{ A with Volumes:=A.Volumes++[x] }) (Al8 E t r A.Volumes hVolumes) (fun _ _=>rfl)
  rw [if_neg hvol,if_neg hvol]
  by_cases hwei:(t.Text==[119,101,105,103,104,116])=true
  ·rw [if_pos hwei,if_pos hwei]
   exact V4 (upd:=fun x=>{ A with Rules:=A.Rules++[x] }) (Ale E t r A.Rules hRules) (Ai3 r) (fun _=>by simp only [show Int.toNat 1=1 from rfl,List.drop_drop,Nat.reduceAdd]; rfl)
  rw [if_neg hwei,if_neg hwei]
  unfold El
  rw [Afm]; rfl
 ·rw [if_neg hk,if_neg hk]
  unfold El
  rw [Afm]; rfl
end Go.Am
namespace Go.Am
open Go
set_option linter.unusedVariables false
set_option linter.unusedSimpArgs false
def Ke {α:Type}(p:Rd α):Prop := ∀ l a q,p l=.ok (a,q)→q <:+ l
section
variable {α β:Type}
theorem Cd {p:Rd α}{f:α→Rd β}(hp:Ke p)(hf : ∀ a,Ke (f a)):Ke (p.bind f):=fun l b q h=>by
 obtain⟨a,m,h1,h2⟩:=Agp h
 exact(hf a m b q h2).trans (hp l a m h1)
theorem Fp (a:α):Ke (Rd.pure a):=fun l b q h=>by cases h; exact List.suffix_refl _
theorem Ai2 (e:Int):Ke (Rd.fail e:Rd α):=fun l b q h=>nomatch h
theorem Aa3 (q:Token→Bool):Ke (Nz q):=fun l a r h=>by
 obtain⟨rfl,_⟩:=Afo h
 exact List.suffix_cons _ _
theorem Acq (k:Int)(w:Aw):Ke (rIs k w):=fun l a r h=>by
 cases l with
 | nil=>cases h; exact List.suffix_refl _
 | cons t l=>cases h; exact List.suffix_refl _
theorem Oi:Ke O6:=Cd (Aa3 _) fun _=>Fp _
theorem Kz (k:Int)(w:Aw):Ke (Ox k w):=Cd (Aa3 _) fun _=>Fp _
theorem Nw (a b c:Int):Ke (O2 a b c):=Cd (Aa3 _) fun _=>Fp _
theorem Ace:Ke Qa:=Cd (Nw _ _ _) fun _=>Cd (Kz _ _) fun _=>Cd (Nw _ _ _) fun _=>Fp _
theorem Pu {p:Rd α}(hp:Ke p) : ∀ (n:Nat) (acc:List α),Ke (Gt p n acc)
 | 0,acc=>by
  rw [Gt]
  refine Cd hp fun a=>Cd (Acq _ _) fun b=>?_
  cases b
  ·exact Fp _
  ·exact Ai2 _
 | n+1,acc=>by
  rw [Gt]
  refine Cd hp fun a=>Cd (Acq _ _) fun b=>?_
  cases b
  ·exact Fp _
  ·exact Cd (Kz _ _) fun _=>Pu hp n _
theorem Abv (w:Aw):Ke (V6 w):=Cd (Acq _ _) fun b=>by
 cases b
 ·exact Fp _
 ·exact Cd (Kz _ _) fun _=>Pu Ace _ _
theorem Ajr:Ke Wh:=Cd (Kz _ _) fun _=>Cd Oi fun _=>Cd (Nw _ _ _) fun _=>Fp _
theorem All (s:Aw):Ke (Abc s):=Cd (Abv _) fun _=>Fp _
theorem Alx (s:Aw):Ke (Abl s):=Cd (Kz _ _) fun _=>Cd (Pu Oi _ _) fun _=>Cd (Kz _ _) fun _=>Cd (Nw _ _ _) fun _=>Cd (Kz _ _) fun _=>Cd (Nw _ _ _) fun _=>Fp _
theorem Al5 (s:Aw):Ke (Aaw s):=Cd (Kz _ _) fun _=>Cd (Pu Oi _ _) fun _=>Fp _
theorem Akv (s:Aw):Ke (Abq s):=Cd (Kz _ _) fun _=>Cd Oi fun _=>Cd (Kz _ _) fun _=>Cd (Nw _ _ _) fun _=>Cd (Abv _) fun _=>Fp _
theorem Ali (s:Aw):Ke (Aav s):=Cd (Kz _ _) fun _=>Cd Oi fun _=>Cd (Kz _ _) fun _=>Cd Oi fun _=>Cd (Kz _ _) fun _=>Cd (Pu Oi _ _) fun _=>Fp _
theorem Ak4 (s:Aw):Ke (Abe s):=Cd (Pu Ajr _ _) fun _=>Fp _
theorem Ako (s:Aw):Ke (Abf s):=Cd (Kz _ _) fun _=>Cd (Nw _ _ _) fun _=>Cd (Kz _ _) fun _=>Cd (Nw _ _ _) fun _=>Cd (Kz _ _) fun _=>Cd (Nw _ _ _) fun _=>Fp _
theorem Alo (s:Aw):Ke (Aa4 s):=Cd (Kz _ _) fun _=>Cd Oi fun _=>Cd Ace fun _=>Fp _
theorem Amg (s:Aw):Ke (Ade s):=Fp _
theorem Alh (s:Aw):Ke (Abp s):=Cd (Nw _ _ _) fun _=>Fp _
theorem Alk (s:Aw):Ke (Zr s):=Cd (Nw _ _ _) fun _=>Fp _
theorem Aku {p:Aw→Rd α}(hp : ∀ s,Ke (p s)):Ke (F4 p):=Cd Oi fun s=>Cd (hp s) fun _=>Cd (Kz _ _) fun _=>Fp _
end
theorem Fj {c:Prop}[Decidable c]{α:Type}{a b:Option α}{y:α}(h:(if c then a else b)=some y):a=some y∨b=some y:=by
 by_cases hc:c
 ·rw [if_pos hc] at h; exact .inl h
 ·rw [if_neg hc] at h; exact .inr h
theorem Alq {w:Aw}{A:Airspace}{f:Bool}{p:Rd Airspace}(h:Ud w A=some (f,p)):Ke p∧(Abd A→f=false → ∀ l B q,p l=.ok (B,q)→Abd B):=by
 unfold Ud at h
 refine(Fj h).elim (fun h=>?_) (fun h=>(Fj h).elim (fun h=>?_) (fun h=>(Fj h).elim (fun h=>?_) (fun h=>(Fj h).elim (fun h=>?_) (fun h=>(Fj h).elim (fun h=>?_) (fun h=>(Fj h).elim (fun h=>?_) (fun h=>(Fj h).elim (fun h=>?_) (fun h=>(Fj h).elim (fun h=>?_) (fun h=>(Fj h).elim (fun h=>?_) (fun h=>(Fj h).elim (fun h=>?_) (fun h=>(Fj h).elim (fun h=>?_) (fun h=>nomatch h)))))))))))
 all_goals
  cases h
  refine⟨Cd (Aku (by first | exact Ak4 | exact Ako | exact Al5 | exact Alo | exact Amg | exact Alk | exact Ali | exact Alx | exact Akv | exact All | exact Alh)) fun _=>Fp _,fun hF hf l B q hB=>?_⟩
  obtain⟨x,m,_,h2⟩:=Agp hB
  cases h2
  obtain⟨h1,h2,h3,h4,h5,h6,h7,h8⟩:=hF
  have hf:=of_decide_eq_false hf
  refine⟨?_,?_,?_,?_,?_,?_,?_,?_⟩ <;> first | assumption | (simp only [List.length_append,List.length_singleton]; omega)
theorem Ajs {A:Airspace}{t:Token}{r:List Token}{B:Airspace}{q:List Token}(hA:Abd A)(h:Rc A (t::r)=.ok (B,q)):Abd B∧q <:+ r:=by
 simp only [Rc] at h
 split at h
 ·cases hi:Ud t.Text A with
  | none=>rw [hi] at h; cases h
  | some x=>
   obtain⟨f,p⟩:=x
   rw [hi] at h
   simp only at h
   cases f
   ·obtain⟨h1,h2⟩:=Alq hi
    exact⟨h2 hA rfl r B q h,h1 r B q h⟩
   ·cases h
 ·cases h
def Xe:Nat→Airspace→List Token→Except (List Token×Int) Airspace
 | _,A,[]=>.ok A
 | 0,A,t::r=>.error (t::r,0)
 | n+1,A,t::r=>match Rc A (t::r) with
  | .error e=>.error e
  | .ok (B,q)=>Xe n B q
def noA:Airspace:={ Volumes:=[],Sectors:=[],Configs:=[],Segments:=[],Routes:=[],Airports:=[],Classes:=[],Rules:=[] }
def Pn (l:List Token):Except (List Token×Int) Airspace:=Xe l.length noA l
def ps (A:Airspace)(l:List Token):=(l,A.Airports,A.Classes,A.Configs,A.Rules,A.Routes,A.Sectors,A.Segments,A.Volumes)
theorem Agl (src:Aw) : ∀ (n:Nat) (A:Airspace) (l:List Token),l.length≤n→Abd A→(∀ x ∈ l,0≤x.N) →
  loop (Y6 fun fL l l1 l2 l3 l4 l5 l6 l7=>Il src fL l l1 l2 l3 l4 l5 l6 l7) (ps A l)=match Xe n A l with
   | .ok B=>.ok (ps B [])
   | .error (q,e)=>.pan ⟨64,.two .i64 .i64 (Aa7 (src.length:Int) q) e⟩:=by
 intro n
 induction n with
 | zero=>
  intro A l hl hA hN
  have:l=[]:=List.length_eq_zero_iff.1 (by omega)
  subst this
  rw [Sa]; rfl
 | succ n ih=>
  intro A l hl hA hN
  rw [Sa]
  cases l with
  | nil=>rfl
  | cons t r=>
   have e1:((t::r).length:Int) > 0:=by simp only [List.length_cons]; omega
   have hb:(Y6 fun fL l l1 l2 l3 l4 l5 l6 l7=>Il src fL l l1 l2 l3 l4 l5 l6 l7) (ps A (t::r))=(run (src.length:Int) (Rc A (t::r))).bind fun x=>.ok (.inl (ps x.1 x.2)):=by
    show Il src (t::r) A.Airports A.Classes A.Configs A.Rules A.Routes A.Sectors A.Segments A.Volumes=_
    unfold Il
    rw [if_pos e1,Aly _ A hA t r fun x hx=>hN x (List.mem_cons_of_mem _ hx),R.bind_assoc]
    rfl
   rw [hb,Xe]
   cases hd:Rc A (t::r) with
   | error e=>rfl
   | ok y=>
    obtain⟨B,q⟩:=y
    obtain⟨hB,hq⟩:=Ajs hA hd
    exact ih B q (by have:=hq.length_le; simp only [List.length_cons] at hl; omega) hB fun x hx=>hN x (List.mem_cons_of_mem _ (hq.subset hx))
def Agv (E:Int):Except (List Token×Int) Airspace→Airspace×Int×Int
 | .ok A=>(A,0,0)
 | .error (q,e)=>(noA,Aa7 E q,e)
def Qi (s:Aw):Airspace×Int×Int:=if(F5 s).2.2=0 then Agv (s.length:Int) (Pn (F5 s).1) else(noA,(F5 s).2.1,(F5 s).2.2)
theorem Ajc {s:Aw}(hN : ∀ x ∈ (F5 s).1,0≤x.N):Hg s=.ok (Qi s):=by
 unfold Hg Py Qi
 rw [Ahk,show(R.ok (F5 s)).np=R.ok (F5 s) from rfl,R.ok_bind]
 by_cases h:(F5 s).2.2=0
 ·rw [if_pos h,show((F5 s).2.2 != 0)=false by rw [h]; rfl]
  have:=Agl s _ noA (F5 s).1 (Nat.le_refl _) ⟨by decide,by decide,by decide,by decide,by decide,by decide,by decide,by decide⟩ hN
  simp only [Bool.false_eq_true,if_false]
  rw [show((F5 s).1,([]:List Airport),([]:List Class),([]:List Config),([]:List Rule),([]:List Route),([]:List Sector),([]:List Segment),([]:List Volume))=ps noA (F5 s).1 from rfl,this]
  unfold Pn
  cases Xe (F5 s).1.length noA (F5 s).1 with
  | ok B=>rfl
  | error x=>rfl
 ·rw [if_neg h,if_pos (by simpa using h)]; rfl
end Go.Am
namespace Go.Am
open Go
set_option linter.unusedVariables false
set_option linter.unusedSimpArgs false
section
variable {E:Int} {L:List Token} (hL:L.length≤65536)
theorem Adw {α:Type}(q:Token→Bool)(f:Token→α)(t:Token)(r:List Token):((Nz q).bind fun t=>.pure (f t)) (t::r)=if q t=true then .ok (f t,r) else .error (t::r,80):=by
 by_cases h:q t=true
 ·rw [if_pos h]; simp only [Rd.bind,Nz,h,if_true]; rfl
 ·rw [if_neg h]; simp only [Rd.bind,Nz,h]; rfl
include hL
omit hL
include hL
end
end Go.Am
namespace Go.Am
open Go
set_option linter.unusedVariables false
set_option linter.unusedSimpArgs false
end Go.Am
namespace Go.Am
open Go
set_option linter.unusedVariables false
set_option linter.unusedSimpArgs false
set_option linter.unusedSectionVars false
end Go.Am
namespace Go.Am
open Go
set_option linter.unusedVariables false
set_option linter.unusedSimpArgs false
end Go.Am
namespace Go.Am
open Go
set_option linter.unusedVariables false
set_option linter.unusedSimpArgs false
theorem An7 {c:UInt8}{s:Aw}{t:Token}{k:Nat}(h:tk c s=some (some t,k)):0≤t.N:=by
 unfold tk at h
 repeat' split at h
 all_goals first
  | (simp only [Option.some.injEq,Prod.mk.injEq,reduceCtorEq,false_and] at h; done)
  | (simp only [Option.some.injEq,Prod.mk.injEq] at h; obtain⟨rfl,_⟩:=h; simp; done)
  | (exfalso; exact nomatch h)
theorem Yj : ∀ (n:Nat) (s:Aw) (p:Nat) (l:List Token),s.length≤n→Kj s p=.ok l→l.length≤s.length ∧ ∀ t ∈ l,0≤t.N
 | n,[],p,l,_,h=>by rw [Zl] at h; cases h; exact⟨Nat.le_refl _,fun _ h=>nomatch h⟩
 | 0,_::_,_,_,hn,_=>by simp at hn
 | n+1,c::s,p,l,hn,h=>by
  rw [Sr] at h
  cases ht:tk c s with
  | none=>rw [ht] at h; cases h
  | some x=>
   obtain⟨o,k⟩:=x
   rw [ht] at h
   simp only at h
   cases hr:Kj (s.drop k) (p+1+k) with
   | wrong e=>rw [hr] at h; cases h
   | ok l'=>
    rw [hr] at h
    simp only [List.length_cons] at hn
    obtain⟨h1,h2⟩:=Yj n (s.drop k) (p+1+k) l' (by rw [List.length_drop]; omega) hr
    cases h
    rw [List.length_drop] at h1
    cases o with
    | none=>exact⟨by simp; omega,h2⟩
    | some t=>
     refine⟨by simp; omega,fun u hu=>?_⟩
     rcases List.mem_cons.1 hu with rfl | hu
     ·show 0≤t.N
      exact An7 ht
     ·exact h2 u hu
theorem Afb (s:Aw):(F5 s).1.length≤65536∧(F5 s).1.length≤s.length ∧ ∀ t ∈ (F5 s).1,0≤t.N:=by
 unfold F5
 split
 ·cases h:Kj s 0 with
  | wrong e=>exact⟨Nat.zero_le _,Nat.zero_le _,fun _ h=>nomatch h⟩
  | ok l=>
   obtain⟨h1,h2⟩:=Yj _ s 0 l (Nat.le_refl _) h
   exact⟨Nat.le_trans h1 ‹_›,h1,h2⟩
 ·exact⟨Nat.zero_le _,Nat.zero_le _,fun _ h=>nomatch h⟩
theorem Zj (s:Aw):Hg s=.ok (Qi s):=Ajc (Afb s).2.2
theorem Ji {α β:Type}(body:Nat→α→Unit→R (Unit ⊕ β))(L:List α)(h : ∀ j a,L[j]? = some a→body j a ()=.ok (.inl ())) : ∀ (l:List α) (k:Nat),L.drop k=l→each body k l ()=.ok (.inl ())
 | [],k,_=>rfl
 | a::l,k,e=>by
  rw [each,h k a (by have:=congrArg (·[0]?) e; simpa using this),R.ok_bind]
  exact Ji body L h l (k+1) (by have:=congrArg List.tail e; simpa using this)
theorem Ov {α:Type}{L:List α}{j:Nat}{a:α}(h:L[j]? = some a):Ed L (j:Int)=.ok a:=by
 unfold Ed
 rw [if_pos (by omega)]
 simp only [Int.toNat_natCast,h]
theorem Z3 (l:List Span):L3 l l=.ok true:=by
 unfold L3
 rw [if_neg (by simp),Ji _ l (fun j a h=>by simp only [Ln,Ov h,R.ok_bind,beq_self_eq_true,Bool.and_self,if_true]) l 0 rfl]; rfl
theorem W1 (l:List Aw):Jz l l=.ok true:=by
 unfold Jz
 rw [if_neg (by simp),Ji _ l (fun j a h=>by simp only [Lf,Ov h,R.ok_bind,beq_self_eq_true,if_true]) l 0 rfl]; rfl
theorem X4 (l:List Int):Gr l l=.ok true:=by
 unfold Gr
 rw [if_neg (by simp),Ji _ l (fun j a h=>by simp only [Mc,Ov h,R.ok_bind,bne_self_eq_false,Bool.false_eq_true,if_false]) l 0 rfl]; rfl
theorem Ze (a:Airspace):Oj a a=.ok true:=by
 unfold Oj
 rw [if_neg (by simp)]
 rw [Ji _ a.Volumes (fun j x h=>by simp only [Oy,Ov h,R.ok_bind,beq_self_eq_true,Bool.not_true,Bool.false_eq_true,if_false,Z3,Oo]) a.Volumes 0 rfl]
 simp only [R.ok_bind,De]
 rw [Ji _ a.Sectors (fun j x h=>by simp only [M6,Ov h,R.ok_bind,beq_self_eq_true,bne_self_eq_false,Bool.or_self,Bool.not_true,Bool.false_eq_true,if_false,W1,X4]) a.Sectors 0 rfl]
 simp only [R.ok_bind,De]
 rw [Ji _ a.Configs (fun j x h=>by simp only [L7,Ov h,R.ok_bind,beq_self_eq_true,bne_self_eq_false,Bool.or_self,Bool.not_true,Bool.false_eq_true,if_false,W1,X4]) a.Configs 0 rfl]
 simp only [R.ok_bind,De]
 rw [Ji _ a.Segments (fun j x h=>by simp only [Kh,Ov h,R.ok_bind,beq_self_eq_true,bne_self_eq_false,Bool.or_self,Bool.not_true,Bool.false_eq_true,if_false,Z3]) a.Segments 0 rfl]
 simp only [R.ok_bind,De]
 rw [Ji _ a.Routes (fun j x h=>by simp only [I4,Ov h,R.ok_bind,beq_self_eq_true,bne_self_eq_false,Bool.or_self,Bool.not_true,Bool.false_eq_true,if_false,W1,X4]) a.Routes 0 rfl]
 simp only [R.ok_bind,De]
 rw [Ji _ a.Airports (fun j x h=>by
  simp only [Hm,Ov h,R.ok_bind,beq_self_eq_true,bne_self_eq_false,Bool.or_self,Bool.not_true,Bool.false_eq_true,if_false]
  rw [Ji _ x.Modes (fun j y h=>by simp only [Ow,Ov h,R.ok_bind,beq_self_eq_true,Bool.and_self,if_true]) x.Modes 0 rfl]; rfl) a.Airports 0 rfl]
 simp only [R.ok_bind,De]
 rw [Ji _ a.Classes (fun j x h=>by simp only [Gk,Ov h,R.ok_bind,beq_self_eq_true,Bool.and_self,if_true]) a.Classes 0 rfl]
 simp only [R.ok_bind,De]
 rw [Ji _ a.Rules (fun j x h=>by simp only [F1,Ov h,R.ok_bind,beq_self_eq_true,Bool.and_self,if_true]) a.Rules 0 rfl]
 simp only [R.ok_bind,De]
set_option maxRecDepth 100000 in
theorem Air : Q4 = .ok true := by
 unfold Q4
 simp only [Zj, R.ok_bind]
 decide +kernel
end Go.Am
namespace Go.Am
open Go
set_option linter.unusedVariables false
set_option linter.unusedSimpArgs false
def Qk (t:Token):Token:={ t with At:=0 }
def Anv {α:Type}:PR α→PR α
 | .ok (a,r)=>.ok (a,r.map Qk)
 | .error (r,e)=>.error (r.map Qk,e)
def Ju {α:Type}(p:Rd α):Prop := ∀ l,p (l.map Qk)=Anv (p l)
section
variable {α β:Type}
theorem Ce {p:Rd α}{f:α→Rd β}(hp:Ju p)(hf : ∀ a,Ju (f a)):Ju (p.bind f):=fun l=>by
 unfold Rd.bind
 rw [hp l]
 cases h:p l with
 | error x=>rfl
 | ok y=>exact hf y.1 y.2
theorem Gw (a:α):Ju (Rd.pure a):=fun l=>rfl
theorem Ai7 (e:Int):Ju (Rd.fail e:Rd α):=fun l=>rfl
theorem Abk {q:Token→Bool}{f:Token→α}(hq : ∀ t,q (Qk t)=q t)(hf : ∀ t,f (Qk t)=f t):Ju ((Nz q).bind fun t=>.pure (f t)):=fun l=>by
 cases l with
 | nil=>rfl
 | cons t l=>
  rw [List.map_cons,Adw,Adw,hq,hf]
  split <;> rfl
theorem Adq (k:Int)(w:Aw):Ju (rIs k w):=fun l=>by cases l <;> rfl
theorem Ok:Ju O6:=Abk (fun _=>rfl) fun _=>rfl
theorem Kw (k:Int)(w:Aw):Ju (Ox k w):=Abk (fun _=>rfl) fun _=>rfl
theorem N0 (a b c:Int):Ju (O2 a b c):=Abk (fun _=>rfl) fun _=>rfl
theorem Aca:Ju Qa:=Ce (N0 _ _ _) fun _=>Ce (Kw _ _) fun _=>Ce (N0 _ _ _) fun _=>Gw _
theorem Pv {p:Rd α}(hp:Ju p) : ∀ (n:Nat) (acc:List α),Ju (Gt p n acc)
 | 0,acc=>by
  rw [Gt]
  refine Ce hp fun a=>Ce (Adq _ _) fun b=>?_
  cases b
  ·exact Gw _
  ·exact Ai7 _
 | n+1,acc=>by
  rw [Gt]
  refine Ce hp fun a=>Ce (Adq _ _) fun b=>?_
  cases b
  ·exact Gw _
  ·exact Ce (Kw _ _) fun _=>Pv hp n _
theorem Ab7 (w:Aw):Ju (V6 w):=Ce (Adq _ _) fun b=>by
 cases b
 ·exact Gw _
 ·exact Ce (Kw _ _) fun _=>Pv Aca _ _
theorem Ajg:Ju Wh:=Ce (Kw _ _) fun _=>Ce Ok fun _=>Ce (N0 _ _ _) fun _=>Gw _
theorem Akg (s:Aw):Ju (Abc s):=Ce (Ab7 _) fun _=>Gw _
theorem Alu (s:Aw):Ju (Abl s):=Ce (Kw _ _) fun _=>Ce (Pv Ok _ _) fun _=>Ce (Kw _ _) fun _=>Ce (N0 _ _ _) fun _=>Ce (Kw _ _) fun _=>Ce (N0 _ _ _) fun _=>Gw _
theorem Ake (s:Aw):Ju (Aaw s):=Ce (Kw _ _) fun _=>Ce (Pv Ok _ _) fun _=>Gw _
theorem Alc (s:Aw):Ju (Abq s):=Ce (Kw _ _) fun _=>Ce Ok fun _=>Ce (Kw _ _) fun _=>Ce (N0 _ _ _) fun _=>Ce (Ab7 _) fun _=>Gw _
theorem Akk (s:Aw):Ju (Aav s):=Ce (Kw _ _) fun _=>Ce Ok fun _=>Ce (Kw _ _) fun _=>Ce Ok fun _=>Ce (Kw _ _) fun _=>Ce (Pv Ok _ _) fun _=>Gw _
theorem Ak5 (s:Aw):Ju (Abe s):=Ce (Pv Ajg _ _) fun _=>Gw _
theorem Aki (s:Aw):Ju (Abf s):=Ce (Kw _ _) fun _=>Ce (N0 _ _ _) fun _=>Ce (Kw _ _) fun _=>Ce (N0 _ _ _) fun _=>Ce (Kw _ _) fun _=>Ce (N0 _ _ _) fun _=>Gw _
theorem Ama (s:Aw):Ju (Aa4 s):=Ce (Kw _ _) fun _=>Ce Ok fun _=>Ce Aca fun _=>Gw _
theorem Ak2 (s:Aw):Ju (Ade s):=Gw _
theorem Amb (s:Aw):Ju (Abp s):=Ce (N0 _ _ _) fun _=>Gw _
theorem Al2 (s:Aw):Ju (Zr s):=Ce (N0 _ _ _) fun _=>Gw _
theorem Al3 {p:Aw→Rd α}(hp : ∀ s,Ju (p s)):Ju (F4 p):=Ce Ok fun s=>Ce (hp s) fun _=>Ce (Kw _ _) fun _=>Gw _
end
theorem Ajj {w:Aw}{A:Airspace}{f:Bool}{p:Rd Airspace}(h:Ud w A=some (f,p)):Ju p:=by
 unfold Ud at h
 refine(Fj h).elim (fun h=>?_) (fun h=>(Fj h).elim (fun h=>?_) (fun h=>(Fj h).elim (fun h=>?_) (fun h=>(Fj h).elim (fun h=>?_) (fun h=>(Fj h).elim (fun h=>?_) (fun h=>(Fj h).elim (fun h=>?_) (fun h=>(Fj h).elim (fun h=>?_) (fun h=>(Fj h).elim (fun h=>?_) (fun h=>(Fj h).elim (fun h=>?_) (fun h=>(Fj h).elim (fun h=>?_) (fun h=>(Fj h).elim (fun h=>?_) (fun h=>nomatch h)))))))))))
 all_goals
  cases h
  exact Ce (Al3 (by first | exact Ak5 | exact Aki | exact Ake | exact Ama | exact Ak2 | exact Al2 | exact Akk | exact Alu | exact Alc | exact Akg | exact Amb)) fun _=>Gw _
theorem Ajo (A:Airspace):Ju (Rc A):=fun l=>by
 cases l with
 | nil=>rfl
 | cons t l=>
  show Rc A (Qk t::l.map Qk)=_
  simp only [Rc,show(Qk t).Kind=t.Kind from rfl,show(Qk t).Text=t.Text from rfl]
  split
  ·cases h:Ud t.Text A with
   | none=>rfl
   | some x=>
    obtain⟨f,p⟩:=x
    cases f
    ·exact Ajj h l
    ·rfl
  ·rfl
def Agy:Except (List Token×Int) Airspace→Except (List Token×Int) Airspace
 | .ok a=>.ok a
 | .error (r,e)=>.error (r.map Qk,e)
theorem Afe : ∀ (n:Nat) (A:Airspace) (l:List Token),Xe n A (l.map Qk)=Agy (Xe n A l)
 | 0,A,[]=>rfl
 | _+1,A,[]=>rfl
 | 0,A,t::r=>rfl
 | n+1,A,t::r=>by
  have h:=Ajo A (t::r)
  rw [List.map_cons] at h ⊢
  rw [Xe,Xe,h]
  cases hd:Rc A (t::r) with
  | error e=>rfl
  | ok y=>exact Afe n y.1 y.2
theorem Ab3 (l:List Token):Pn (l.map Qk)=Agy (Pn l):=by
 unfold Pn
 rw [List.length_map]
 exact Afe _ _ _
end Go.Am
namespace Go.Am
open Go
set_option linter.unusedVariables false
set_option linter.unusedSimpArgs false
def Aep {α β:Type}(q:α→β→Bool):List α→List β→Bool
 | [],[]=>true
 | a::l,b::m=>q a b&&Aep q l m
 | _,_=>false
def key (a b:Token):Bool:=(a.Kind==b.Kind)&&(a.Text==b.Text)&&(a.N==b.N)
def same (a b:List Token):Bool:=Aep key a b
def equal (a b:List Token):Bool:=same a b&&Aep (fun x y:Token=>x.At==y.At) a b
def Fa (t:Token):Aw:=if t.Kind==2 then Lib.decDigits t.N.toNat else t.Text
def Aax (l:List Token):Aw×Int:=if l.all Dj then(Lib.join (l.map Fa) [32],0) else([],70)
theorem X2 {t:Token}(h:Dj t=true)(hk:(t.Kind==2)=true):t.Text=[]∧0≤t.N∧t.N≤1099511627776:=by
 unfold Dj at h
 have:t.Kind=2:=eq_of_beq hk
 rw [this] at h
 rw [if_neg (by decide),if_pos (by decide)] at h
 simp at h
 exact⟨h.1.1,h.1.2,h.2⟩
theorem Ajq {n:Int}(h:0≤n):Lib.itoa n=Lib.decDigits n.toNat:=by
 have:=Aej n.toNat
 rwa [show((n.toNat:Nat):Int)=n by omega] at this
theorem Ab0 : ∀ (l:List Token) (pre:List Aw) (k:Nat),pre.length=k→(∀ t ∈ l,t.N≤9223372036854775807) →
  each (fun j a=>fun words=>O1 j a words) k l (pre++List.replicate l.length [])=.ok (if l.all Dj then .inl (pre++l.map Fa) else .inr ([],70))
 | [],pre,k,_,_=>by simp
 | t::l,pre,k,hk,hn=>by
  rw [S0]
  unfold O1
  rw [Aem,R.ok_bind,List.all_cons]
  cases hv:Dj t
  ·rfl
  ·simp only [if_true,Bool.true_and]
   have e:(pre++List.replicate (t::l).length ([]:Aw))[k]? = some []:=by
    rw [List.getElem?_append_right (by omega),hk]; simp
   have e2 : ∀ w:Aw,(pre++List.replicate (t::l).length ([]:Aw)).set (k:Int).toNat w=(pre++[w])++List.replicate l.length []:=by
    intro w
    rw [Int.toNat_natCast,List.set_append_right _ _ (by omega),hk,List.length_cons,List.replicate_succ]
    simp
   have ih:=fun w=>Ab0 l (pre++[w]) (k+1) (by simp [hk]) (fun t ht=>hn t (List.mem_cons_of_mem _ ht))
   cases hkd:(t.Kind==2)
   ·simp only [Bool.false_eq_true,if_false,Yw e,R.ok_bind]
    rw [e2]
    refine(ih _).trans ?_
    simp [Fa,hkd]
   ·obtain⟨_,h1,h2⟩:=X2 hv hkd
    simp only [if_true]
    unfold strconv_Itoa
    rw [if_pos ⟨by omega,by omega⟩,Ajq h1]
    simp only [Yw e,R.ok_bind]
    rw [e2]
    refine(ih _).trans ?_
    simp [Fa,hkd]
def Aj8 (l:List Token):Prop:=l.length≤1048576∧(Lib.join (l.map Fa) [32]).length≤140737488355328 ∧ ∀ t ∈ l,t.N≤9223372036854775807
theorem Akz (l:List Token)(h:Aj8 l):Qf l=.ok (Aax l):=by
 unfold Qf Aax
 obtain⟨h1,h2,h3⟩:=h
 rw [if_pos ⟨by omega,by omega,by simp only [Int.toNat_natCast,Ek]; omega⟩,Int.toNat_natCast]
 have:=Ab0 l [] 0 rfl h3
 rw [List.nil_append,List.nil_append] at this
 rw [this]
 cases l.all Dj
 ·rfl
 ·simp only [if_true,R.ok_bind]
  unfold strings_Join
  simp only [De]
  rw [if_pos h2]
  rfl
end Go.Am
namespace Go.Am
open Go
set_option linter.unusedVariables false
set_option linter.unusedSimpArgs false
theorem Adx (sep:Aw) : ∀ l:List Aw,(Lib.joinTail sep l).length=sep.length * l.length+(l.map List.length).sum
 | []=>by simp [Lib.joinTail]
 | a::l=>by
  have ih:=Adx sep l
  have e:Lib.joinTail sep (a::l)=sep++a++Lib.joinTail sep l:=by simp [Lib.joinTail]
  rw [e,List.length_append,List.length_append,ih,List.map_cons,List.sum_cons,List.length_cons,Nat.mul_add]
  omega
theorem Akn (l:List Aw):(Lib.join l [32]).length≤l.length+(l.map List.length).sum:=by
 cases l with
 | nil=>simp [Lib.join_nil]
 | cons a l=>
  have e1:([32]:Aw).length=1:=rfl
  have e2:(a::l).length=l.length+1:=rfl
  rw [Lib.join_cons,List.length_append,Adx,List.map_cons,List.sum_cons,e1]
  omega
end Go.Am
namespace Go.Am
open Go
set_option linter.unusedVariables false
set_option linter.unusedSimpArgs false
theorem Aaz {α:Type}{q:α→Bool}{d:α}(hd:q d=false)(m:List α) : ∀ s:List α,(s++d::m).takeWhile q=s.takeWhile q
 | []=>by rw [List.nil_append,List.takeWhile_cons,hd]; rfl
 | a::s=>by
  rw [List.cons_append,List.takeWhile_cons,List.takeWhile_cons,Aaz hd m s]
theorem Ai5 {α:Type}{s m:List α}{k:Nat}(h:k≤s.length):(s++m).drop k=s.drop k++m:=by
 rw [List.drop_append_of_le_length h]
def Lx.pre (l:List Token):Lx→Lx
 | .ok r=>.ok (l++r)
 | .wrong e=>.wrong e
def Lx.seq (x:Lx)(y:Lx):Lx:=match x with
 | .ok l=>y.pre l
 | .wrong e=>.wrong e
theorem Ahi (l:List Token):out (.ok l)=(l,0,0):=rfl
theorem Aif (e:Nat):out (.wrong e)=([],(e:Int),70):=rfl
theorem Um {s:Aw}(h:s.length≤65536):F5 s=out (Kj s 0):=by unfold F5; rw [if_pos h]
theorem Aas {q:UInt8→Bool} : ∀ (w:Aw),w.all q=true→w.takeWhile q=w
 | [],_=>rfl
 | a::w,h=>by
  have h:q a=true∧w.all q=true:=by simpa using h
  rw [List.takeWhile_cons,h.1,if_pos rfl,Aas w h.2]
end Go.Am
namespace Go.Am
open Go
set_option linter.unusedVariables false
set_option linter.unusedSimpArgs false
theorem Ajz {t:Token}(hv:Dj t=true) : ∃ c w,Fa t=c::w ∧ ∀ m:Aw,(m=[] ∨ ∃ d m',m=d::m'∧Jx d=true) → ∃ u,tk c (w++m)=some (some u,w.length)∧key t u=true:=by
 unfold Dj at hv
 by_cases h1:(t.Kind==1)=true
 ·rw [if_pos h1] at hv
  have hk:t.Kind=1:=eq_of_beq h1
  have hsp:Fa t=t.Text:=by unfold Fa; rw [hk]; rfl
  rw [hsp]
  rw [Bool.and_eq_true] at hv
  obtain⟨hn,h0⟩:=hv
  have h0:t.N=0:=eq_of_beq h0
  cases hT:t.Text with
  | nil=>rw [hT] at hn; cases hn
  | cons c w=>
   rw [hT] at hn
   have hn':Na c=true∧w.all G3=true∧w.length+1≤32:=by
    simp [Sv] at hn
    simpa [and_assoc] using hn
   refine⟨c,w,rfl,fun m hm=>?_⟩
   have e:(w++m).takeWhile G3=w:=by
    rcases hm with rfl | ⟨d,m',rfl,hd⟩
    ·rw [List.append_nil]; exact Aas w hn'.2.1
    ·rw [Aaz (Adm hd).1,Aas w hn'.2.1]
   refine⟨⟨1,c::w,0,0⟩,?_,by simp [key,hk,hT,h0]⟩
   unfold tk
   rw [Amp hn'.1,hn'.1,e]
   simp only [Bool.false_eq_true,if_false,if_true,hn'.2.2]
 ·rw [if_neg h1] at hv
  by_cases h2:(t.Kind==2)=true
  ·rw [if_pos h2] at hv
   have hk:t.Kind=2:=eq_of_beq h2
   have hvv:Dj t=true:=by unfold Dj; rw [if_neg h1,if_pos h2]; exact hv
   obtain⟨hT,h3,h4⟩:=X2 hvv h2
   have hsp:Fa t=Lib.decDigits t.N.toNat:=by unfold Fa; rw [if_pos h2]
   obtain⟨d1,d2,d3,d4,_⟩:=Afz t.N.toNat
   rw [hsp]
   cases hD:Lib.decDigits t.N.toNat with
   | nil=>exact absurd hD d3
   | cons c w=>
    rw [hD] at d1 d2 d4
    have d1':D9 c=true∧w.all D9=true:=by simpa using d1
    refine⟨c,w,rfl,fun m hm=>?_⟩
    have e:(w++m).takeWhile D9=w:=by
     rcases hm with rfl | ⟨d,m',rfl,hd⟩
     ·rw [List.append_nil]; exact Aas w d1'.2
     ·rw [Aaz (Adm hd).2.1,Aas w d1'.2]
    refine⟨⟨2,[],val (c::w),0⟩,?_,?_⟩
    ·unfold tk
     have:=Am1 d1'.1
     rw [this.1,this.2,d1'.1,e]
     have hok:Qy (c::w)=true:=by unfold Qy; rw [d4,d2,decide_eq_true (by omega)]; rfl
     simp only [Bool.false_eq_true,if_false,if_true,hok]
    ·rw [d2]
     simp [key,hk,hT]
     omega
  ·rw [if_neg h2] at hv
   by_cases h3:(t.Kind==3)=true
   ·rw [if_pos h3,Bool.and_eq_true] at hv
    have hk:t.Kind=3:=eq_of_beq h3
    have hsp:Fa t=t.Text:=by unfold Fa; rw [if_neg h2]
    have h0:t.N=0:=eq_of_beq hv.2
    rw [hsp]
    match hT:t.Text,hv.1 with
    | [c],hc=>
     rw [hT] at hv
     have hc:Qc c=true:=hv.1
     refine⟨c,[],rfl,fun m hm=>?_⟩
     refine⟨⟨3,[c],0,0⟩,?_,by simp [key,hk,hT,h0]⟩
     have hh:¬ (c=47∧m.head? = some 47):=by
      rcases hm with rfl | ⟨d,m',rfl,hd⟩
      ·simp
      ·have:=(Adm hd).2.2
       simp [this]
     obtain⟨q1,q2,q3⟩:=Akf hc
     unfold tk
     rw [q1,q2,q3,hc,List.nil_append]
     simp only [Bool.false_eq_true,if_false,if_true,hh]
     rfl
   ·rw [if_neg h3] at hv; cases hv
def Gap (g:Aw):Prop := ∀ (m:Aw) (p:Nat),Kj (g++m) p=Kj m (p+g.length)
theorem Akl {g:Aw}(h:g.all Jx=true):Gap g:=fun m p=>Zh g m p h
theorem Adk {t:Token}(hv:Dj t=true){m:Aw}(hm:m=[] ∨ ∃ d m',m=d::m'∧Jx d=true)(p:Nat) : ∃ u,Kj (Fa t++m) p=(Kj m (p+(Fa t).length)).add (some u) p∧key t u=true:=by
 obtain⟨c,w,hs,h⟩:=Ajz hv
 obtain⟨u,h1,h2⟩:=h m hm
 refine⟨u,?_,h2⟩
 rw [hs,List.cons_append,Sr,h1]
 simp only
 rw [Ai5 (Nat.le_refl _),List.drop_length,List.nil_append,List.length_cons]
 congr 2
 omega
theorem Abz : ∀ (l:List Token) (p:Nat),l.all Dj=true → ∃ r,Kj (Lib.joinTail [32] (l.map Fa)) p=.ok r∧same l r=true
 | [],p,_=>⟨[],rfl,rfl⟩
 | t::l,p,h=>by
  have h:Dj t=true∧l.all Dj=true:=by simpa using h
  have e:Lib.joinTail [32] ((t::l).map Fa)=[32]++(Fa t++Lib.joinTail [32] (l.map Fa)):=by simp [Lib.joinTail]
  obtain⟨u,h1,h2⟩:=Adk (m:=Lib.joinTail [32] (l.map Fa)) h.1 (by cases l with
   | nil=>exact .inl rfl
   | cons a l=>exact .inr ⟨32,Fa a++Lib.joinTail [32] (l.map Fa),by simp [Lib.joinTail],rfl⟩) (p+1)
  obtain⟨r,h3,h4⟩:=Abz l (p+1+(Fa t).length) h.2
  rw [e,Akl (g:=[32]) (by rfl)]
  refine⟨Zc (p+1) u::r,?_,?_⟩
  ·show Kj _ (p+1)=_
   rw [h1,h3]; rfl
  ·show(key t u&&Aep key l r)=true
   rw [h2]; exact h4
theorem Ah3 {l:List Token}(h:l.all Dj=true)(p:Nat) : ∃ r,Kj (Lib.join (l.map Fa) [32]) p=.ok r∧same l r=true:=by
 cases l with
 | nil=>exact⟨[],rfl,rfl⟩
 | cons t l=>
  have h:Dj t=true∧l.all Dj=true:=by simpa using h
  obtain⟨u,h1,h2⟩:=Adk (m:=Lib.joinTail [32] (l.map Fa)) h.1 (by cases l with
   | nil=>exact .inl rfl
   | cons a l=>exact .inr ⟨32,Fa a++Lib.joinTail [32] (l.map Fa),by simp [Lib.joinTail],rfl⟩) p
  obtain⟨r,h3,h4⟩:=Abz l (p+(Fa t).length) h.2
  refine⟨Zc p u::r,?_,?_⟩
  ·rw [List.map_cons,Lib.join_cons,h1,h3]; rfl
  ·show(key t u&&Aep key l r)=true
   rw [h2]; exact h4
theorem Anp {c:UInt8}{s:Aw}{t:Token}{k:Nat}(h:tk c s=some (some t,k)):Dj t=true∧Fa t=c::s.take k:=by
 unfold tk at h
 split at h
 ·cases h
 ·split at h
  ·split at h
   ·rename_i hle hn
    cases h
    refine⟨?_,?_⟩
    ·show(Sv _&&true)=true
     rw [Bool.and_true,Aeg hle (We _ _)]; exact decide_eq_true hn
    ·rw [Yp]; rfl
   ·cases h
  ·split at h
   ·split at h
    ·rename_i _ hfi hn
     cases h
     have hall:(c::s.takeWhile D9).all D9=true:=by rw [List.all_cons,hfi,We]; rfl
     unfold Qy at hn
     rw [Bool.and_eq_true] at hn
     have hn2:val (c::s.takeWhile D9)≤1099511627776:=of_decide_eq_true hn.2
     refine⟨?_,?_⟩
     ·unfold Dj
      dsimp only
      rw [if_neg (by decide),if_pos (by decide)]
      simp
      omega
     ·rw [Yp]
      unfold Fa
      dsimp only
      rw [if_pos (by decide)]
      exact Ag6 _ (by simp) hall hn.1
    ·cases h
   ·split at h
    ·split at h
     ·cases h
     ·rename_i hsi _
      cases h
      refine⟨?_,rfl⟩
      show(Ul [c]&&true)=true
      rw [Bool.and_true]; exact hsi
    ·cases h
theorem Ady (p:Nat)(t:Token):Dj (Zc p t)=Dj t∧Fa (Zc p t)=Fa t:=⟨rfl,rfl⟩
def Aeh (l:List Token):Nat:=((l.map Fa).map List.length).sum
theorem Afh : ∀ (n:Nat) (s:Aw) (p:Nat) (l:List Token),s.length≤n→Kj s p=.ok l→l.all Dj=true∧Aeh l≤s.length
 | n,[],p,l,_,h=>by rw [Zl] at h; cases h; exact⟨rfl,Nat.le_refl _⟩
 | 0,_::_,p,l,h,_=>by simp at h
 | n+1,c::s,p,l,hn,h=>by
  rw [Sr] at h
  cases ht:tk c s with
  | none=>rw [ht] at h; cases h
  | some x=>
   obtain⟨o,k⟩:=x
   have hk:=Akb ht
   rw [ht] at h
   simp only at h
   cases hr:Kj (s.drop k) (p+1+k) with
   | wrong e=>rw [hr] at h; cases h
   | ok r=>
    rw [hr] at h
    simp only [Lx.add,Lx.ok.injEq] at h
    subst h
    obtain⟨h1,h2⟩:=Afh n (s.drop k) _ r (by rw [List.length_drop]; simp at hn; omega) hr
    rw [List.length_drop] at h2
    cases o with
    | none=>exact⟨h1,by simp; omega⟩
    | some u=>
     obtain⟨h3,h4⟩:=Anp ht
     refine⟨by show(Zc p u::r).all Dj=true; rw [List.all_cons,(Ady p u).1,h3,h1]; rfl,?_⟩
     have e:(Fa u).length=k+1:=by rw [h4,List.length_cons,List.length_take]; omega
     unfold Aeh at h2 ⊢
     simp only [Option.map_some,Option.toList_some,List.cons_append,List.nil_append,List.map_cons,List.sum_cons,(Ady p u).2,e,List.length_cons]
     omega
theorem Alf {l:List Token}(h:l.all Dj=true) : ∀ t ∈ l,t.N≤9223372036854775807:=by
 intro t ht
 have hv:Dj t=true:=List.all_eq_true.1 h t ht
 by_cases h2:(t.Kind==2)=true
 ·have:=X2 hv h2; omega
 ·unfold Dj at hv
  rw [if_neg h2] at hv
  split at hv
  ·rw [Bool.and_eq_true] at hv; have:t.N=0:=eq_of_beq hv.2; omega
  ·split at hv
   ·rw [Bool.and_eq_true] at hv; have:t.N=0:=eq_of_beq hv.2; omega
   ·cases hv
theorem Aew (l:List Token):(Lib.join (l.map Fa) [32]).length≤l.length+Aeh l:=by
 have:=Akn (l.map Fa)
 rwa [List.length_map] at this
end Go.Am
namespace Go.Am
open Go
set_option linter.unusedVariables false
set_option linter.unusedSimpArgs false
end Go.Am
namespace Go.Am
open Go
set_option linter.unusedVariables false
set_option linter.unusedSimpArgs false
theorem Abw : ∀ (l r:List Token),same l r=true→l.map Qk=r.map Qk
 | [],[],_=>rfl
 | [],_::_,h=>by cases h
 | _::_,[],h=>by cases h
 | a::l,b::r,h=>by
  have h:(key a b&&same l r)=true:=h
  rw [Bool.and_eq_true] at h
  obtain⟨h1,h2⟩:=h
  unfold key at h1
  simp only [Bool.and_eq_true,beq_iff_eq] at h1
  obtain⟨⟨h3,h4⟩,h5⟩:=h1
  rw [List.map_cons,List.map_cons,Abw l r h2]
  unfold Qk
  rw [h3,h4,h5]
theorem Ach {s:Aw}{p:Nat}{l:List Token}(hs:s.length≤65536)(h:Kj s p=.ok l):Aj8 l∧l.all Dj=true:=by
 obtain⟨h1,h2⟩:=Afh _ s p l (Nat.le_refl _) h
 obtain⟨h3,_⟩:=Yj _ s p l (Nat.le_refl _) h
 refine⟨⟨by omega,?_,Alf h1⟩,h1⟩
 have:=Aew l
 omega
theorem Amd {s:Aw}{p:Nat}{l:List Token}(hs:s.length≤65536)(h:Kj s p=.ok l):Qf l=.ok (Lib.join (l.map Fa) [32],0):=by
 obtain⟨h1,h2⟩:=Ach hs h
 rw [Akz l h1]
 unfold Aax
 rw [if_pos h2]
theorem Zf {s:Aw}{l:List Token}(hs:s.length≤65536)(h:Kj s 0=.ok l):Qi s=Agv (s.length:Int) (Pn l):=by
 unfold Qi
 rw [Um hs,h,Ahi]
 rfl
theorem Aed {s:Aw}(h:(F5 s).2.2≠0):Qi s=(noA,(F5 s).2.1,(F5 s).2.2):=by
 unfold Qi
 rw [if_neg h]
theorem law_SyntaxSpaces:Mo:=by
 intro a0 _ _
 unfold M7
 rw [Air,R.ok_bind,if_pos rfl]
 split
 ·rfl
 rename_i hlen
 rw [Zj,R.ok_bind,Ahk,R.ok_bind]
 have hs:a0.length≤65536:=by omega
 by_cases he:(F5 a0).2.2=0
 ·rw [if_neg (by simp [he])]
  cases hl:Kj a0 0 with
  | wrong e=>rw [Um hs,hl,Aif] at he; exact absurd he (by simp)
  | ok l=>
   have e1:F5 a0=(l,0,0):=by rw [Um hs,hl,Ahi]
   rw [e1,Amd hs hl,R.ok_bind]
   obtain⟨_,hv⟩:=Ach hs hl
   by_cases hj:(Lib.join (l.map Fa) [32]).length≤65536
   ·rw [if_neg (by simp; omega),Zj,R.ok_bind]
    obtain⟨r,hr,hsame⟩:=Ah3 hv 0
    rw [Zf hs hl,Zf hj hr]
    have hn:=Abw l r hsame
    have e2:Agy (Pn l)=Agy (Pn r):=by rw [← Ab3,← Ab3,hn]
    cases h1:Pn l with
    | ok A=>
     cases h2:Pn r with
     | ok B=>
      rw [h1,h2] at e2
      cases e2
      simp only [Agv,Ze,R.ok_bind,beq_self_eq_true,Bool.and_self]
     | error x=>rw [h1,h2] at e2; cases e2
    | error x=>
     cases h2:Pn r with
     | ok B=>rw [h1,h2] at e2; cases e2
     | error y=>
      rw [h1,h2] at e2
      obtain⟨q,e⟩:=x
      obtain⟨q',e'⟩:=y
      have e3:e=e':=congrArg (fun z:Except (List Token×Int) Airspace=>match z with | .ok _=>0 | .error w=>w.2) e2
      subst e3
      simp only [Agv,Ze,R.ok_bind,beq_self_eq_true,Bool.and_self]
   ·rw [if_pos (by simp; omega)]; rfl
 ·rw [if_pos (by simpa using he),Aed he]
  simp only [beq_self_eq_true,Bool.and_self]
end Go.Am
namespace Go.Proofs
open Go.Shelf
def Tryz.lays156_ren:Go.Shelf.Ren:=⟨fun | 156=>61 | 165=>110 | 166=>111 | 169=>112 | 240=>121 | 241=>122 | 276=>134 | 277=>135 | n=>n,fun | 31=>55 | 9=>9 | 3=>3 | 4=>4 | 0=>0 | 20=>20 | 72=>176 | 76=>170 | 70=>173 | 37=>174 | 75=>169 | 127=>184 | 164=>198 | 5=>5 | 80=>178 | n=>n,fun | n=>n⟩
theorem Tryz.lays156:Go.Proofs.Lays.n156 Tryz.prog Tryz.lays156_ren:={
 mixed:=by kernel_rfl
 f156:=Tryz.func61.trans (congrArg some (by kernel_rfl))
 f165:=Tryz.func110.trans (congrArg some (by kernel_rfl))
 f166:=Tryz.func111.trans (congrArg some (by kernel_rfl))
 f169:=Tryz.func112.trans (congrArg some (by kernel_rfl))
 f240:=Tryz.func121.trans (congrArg some (by kernel_rfl))
 f241:=Tryz.func122.trans (congrArg some (by kernel_rfl))
 f276:=Tryz.func134.trans (congrArg some (by kernel_rfl))
 f277:=Tryz.func135.trans (congrArg some (by kernel_rfl))
 t0:=Tryz.underlying0
 a0:=Tryz.isAgg0
 z0:=Tryz.sizeOf0
 v0:=Tryz.zeroValue0
 t3:=Tryz.underlying3
 a3:=Tryz.isAgg3
 z3:=Tryz.sizeOf3
 v3:=Tryz.zeroValue3
 t4:=Tryz.underlying4
 a4:=Tryz.isAgg4
 z4:=Tryz.sizeOf4
 v4:=Tryz.zeroValue4
 t9:=Tryz.underlying9
 a9:=Tryz.isAgg9
 z9:=Tryz.sizeOf9
 v9:=Tryz.zeroValue9
 t20:=Tryz.underlying20
 a20:=Tryz.isAgg20
 z20:=Tryz.sizeOf20
 v20:=Tryz.zeroValue20
 t31:=Tryz.underlying55
 a31:=Tryz.isAgg55
 z31:=Tryz.sizeOf55
 v31:=Tryz.zeroValue55
 t37:=Tryz.underlying174
 a37:=Tryz.isAgg174
 z37:=Tryz.sizeOf174
 v37:=Tryz.zeroValue174
 t70:=Tryz.underlying173
 a70:=Tryz.isAgg173
 z70:=Tryz.sizeOf173
 v70:=Tryz.zeroValue173
 t72:=Tryz.underlying176
 a72:=Tryz.isAgg176
 z72:=Tryz.sizeOf176
 v72:=Tryz.zeroValue176
 t75:=Tryz.underlying169
 a75:=Tryz.isAgg169
 z75:=Tryz.sizeOf169
 v75:=Tryz.zeroValue169
 t76:=Tryz.underlying170
 a76:=Tryz.isAgg170
 z76:=Tryz.sizeOf170
 v76:=Tryz.zeroValue170
 t127:=Tryz.underlying184
 a127:=Tryz.isAgg184
 z127:=Tryz.sizeOf184
 v127:=Tryz.zeroValue184
 t164:=Tryz.underlying198
 a164:=Tryz.isAgg198
 z164:=Tryz.sizeOf198
 v164:=Tryz.zeroValue198 }
theorem Tryz.Builder_Extra_156:Builder.Extra Tryz.prog Tryz.lays156_ren:={
 sizeBuilder:=by kernel_rfl
 liesBuilder:=by kernel_rfl
 t5:=Tryz.underlying5
 a5:=Tryz.isAgg5
 z5:=Tryz.sizeOf5
 v5:=Tryz.zeroValue5
 infoByte:=by kernel_rfl
 cellsByte:=by kernel_rfl
 sizeByte:=by kernel_rfl
 neB5:=by decide }
open Go.RowKit in
theorem Tryz.strings_Join_none (a : Option Addr) (c : Nat) (sep : ByteArray) (w : World) :
  Calls Tryz.prog 61 #[.slice a 0 c, .string sep] w fun e w' => e = .returned (.string ⟨#[]⟩) ∧ w' = w := Any.strings_Join_none Tryz.lays156 Tryz.Builder_Extra_156 a c sep w
open Go.RowKit in
theorem Tryz.strings_Join (bk o c : Nat) (xs : List ByteArray) (sep : ByteArray) (w : World) (hcells : ∀ (j : Nat) x, xs[j]? = some x → w.cell? ⟨bk, o + j, none⟩ = some (.string x)) (hbk : bk < w.heap.size) (hN : xs.length ≤ 140737488355328) (hcap : xs.length ≤ c) (hlen : (Lib.join (xs.map (·.data.toList)) sep.data.toList).length ≤ 140737488355328) :
  Calls Tryz.prog 61 #[.slice (some ⟨bk, o, none⟩) xs.length c, .string sep] w fun e w' => e = .returned (.string ⟨(Lib.join (xs.map (·.data.toList)) sep.data.toList).toArray⟩) ∧ Below w.heap.size w w' := Any.strings_Join Tryz.lays156 Tryz.Builder_Extra_156 bk o c xs sep w hcells hbk hN hcap hlen
def Tryz.lays137_ren:Go.Shelf.Ren:=⟨fun | 137=>108 | 217=>119 | 266=>129 | n=>n,fun | 9=>9 | 5=>5 | 3=>3 | n=>n,fun | n=>n⟩
theorem Tryz.lays137:Go.Proofs.Lays.n137 Tryz.prog Tryz.lays137_ren:={
 mixed:=by kernel_rfl
 f137:=Tryz.func108.trans (congrArg some (by kernel_rfl))
 f217:=Tryz.func119.trans (congrArg some (by kernel_rfl))
 f266:=Tryz.func129.trans (congrArg some (by kernel_rfl))
 t3:=Tryz.underlying3
 a3:=Tryz.isAgg3
 z3:=Tryz.sizeOf3
 v3:=Tryz.zeroValue3
 t5:=Tryz.underlying5
 a5:=Tryz.isAgg5
 z5:=Tryz.sizeOf5
 v5:=Tryz.zeroValue5
 t9:=Tryz.underlying9
 a9:=Tryz.isAgg9
 z9:=Tryz.sizeOf9
 v9:=Tryz.zeroValue9 }
open Go.RowKit in
theorem Tryz.strings_IndexByte (s : ByteArray) (c : Int) (w : World) :
  Calls Tryz.prog 108 #[.string s, .int .u8 c] w fun e w' => e = .returned (.int .i64 (Lib.indexByte s.data.toList c.toNat.toUInt8)) ∧ w' = w := Any.strings_IndexByte Tryz.lays137 s c w
def Tryz.laysM171_ren:Go.Shelf.Ren:=⟨fun | 171=>60 | 243=>109 | 246=>120 | 283=>130 | 284=>131 | 285=>132 | 286=>133 | 129=>140 | 317=>139 | 318=>141 | 319=>142 | 320=>143 | 337=>146 | 338=>147 | n=>n,fun | 3=>3 | 9=>9 | 2=>2 | 4=>4 | 171=>192 | 0=>0 | 53=>193 | 37=>174 | 5=>5 | 173=>196 | 212=>210 | 51=>211 | 20=>20 | 213=>212 | 46=>203 | 232=>220 | 233=>221 | n=>n,fun | 17=>4 | 18=>5 | 19=>6 | n=>n⟩
theorem Tryz.laysM171:Go.Proofs.LaysM.n171 Tryz.prog Tryz.laysM171_ren:={
 mixed:=by kernel_rfl
 f129:=Tryz.func140.trans (congrArg some (by kernel_rfl))
 f171:=Tryz.func60.trans (congrArg some (by kernel_rfl))
 f243:=Tryz.func109.trans (congrArg some (by kernel_rfl))
 f246:=Tryz.func120.trans (congrArg some (by kernel_rfl))
 f283:=Tryz.func130.trans (congrArg some (by kernel_rfl))
 f284:=Tryz.func131.trans (congrArg some (by kernel_rfl))
 f285:=Tryz.func132.trans (congrArg some (by kernel_rfl))
 f286:=Tryz.func133.trans (congrArg some (by kernel_rfl))
 f317:=Tryz.func139.trans (congrArg some (by kernel_rfl))
 f318:=Tryz.func141.trans (congrArg some (by kernel_rfl))
 f319:=Tryz.func142.trans (congrArg some (by kernel_rfl))
 f320:=Tryz.func143.trans (congrArg some (by kernel_rfl))
 f337:=Tryz.func146.trans (congrArg some (by kernel_rfl))
 f338:=Tryz.func147.trans (congrArg some (by kernel_rfl))
 t0:=Tryz.underlying0
 a0:=Tryz.isAgg0
 z0:=Tryz.sizeOf0
 v0:=Tryz.zeroValue0
 t2:=Tryz.underlying2
 a2:=Tryz.isAgg2
 z2:=Tryz.sizeOf2
 v2:=Tryz.zeroValue2
 t3:=Tryz.underlying3
 a3:=Tryz.isAgg3
 z3:=Tryz.sizeOf3
 v3:=Tryz.zeroValue3
 t4:=Tryz.underlying4
 a4:=Tryz.isAgg4
 z4:=Tryz.sizeOf4
 v4:=Tryz.zeroValue4
 t5:=Tryz.underlying5
 a5:=Tryz.isAgg5
 z5:=Tryz.sizeOf5
 v5:=Tryz.zeroValue5
 t9:=Tryz.underlying9
 a9:=Tryz.isAgg9
 z9:=Tryz.sizeOf9
 v9:=Tryz.zeroValue9
 t20:=Tryz.underlying20
 a20:=Tryz.isAgg20
 z20:=Tryz.sizeOf20
 v20:=Tryz.zeroValue20
 t37:=Tryz.underlying174
 a37:=Tryz.isAgg174
 z37:=Tryz.sizeOf174
 v37:=Tryz.zeroValue174
 t46:=Tryz.underlying203
 a46:=Tryz.isAgg203
 z46:=Tryz.sizeOf203
 v46:=Tryz.zeroValue203
 t51:=Tryz.underlying211
 a51:=Tryz.isAgg211
 z51:=Tryz.sizeOf211
 v51:=Tryz.zeroValue211
 t53:=Tryz.underlying193
 a53:=Tryz.isAgg193
 z53:=Tryz.sizeOf193
 v53:=Tryz.zeroValue193
 t171:=Tryz.underlying192
 a171:=Tryz.isAgg192
 z171:=Tryz.sizeOf192
 v171:=Tryz.zeroValue192
 t173:=Tryz.underlying196
 a173:=Tryz.isAgg196
 z173:=Tryz.sizeOf196
 v173:=Tryz.zeroValue196
 t212:=Tryz.underlying210
 a212:=Tryz.isAgg210
 z212:=Tryz.sizeOf210
 v212:=Tryz.zeroValue210
 t213:=Tryz.underlying212
 a213:=Tryz.isAgg212
 z213:=Tryz.sizeOf212
 t232:=Tryz.underlying220
 a232:=Tryz.isAgg220
 z232:=Tryz.sizeOf220
 v232:=Tryz.zeroValue220
 t233:=Tryz.underlying221
 a233:=Tryz.isAgg221
 z233:=Tryz.sizeOf221
 v233:=Tryz.zeroValue221
 g17:=by kernel_rfl
 g18:=by kernel_rfl
 g19:=by kernel_rfl
 i0:=by kernel_rfl
 i2:=by kernel_rfl
 i3:=by kernel_rfl
 i4:=by kernel_rfl
 i5:=by kernel_rfl
 i9:=by kernel_rfl
 i20:=by kernel_rfl
 i37:=by kernel_rfl
 i46:=by kernel_rfl
 i51:=by kernel_rfl
 i53:=by kernel_rfl
 i171:=by kernel_rfl
 i173:=by kernel_rfl
 i212:=by kernel_rfl
 i232:=by kernel_rfl
 i233:=by kernel_rfl
 m17:=by kernel_rfl
 m18:=by kernel_rfl
 m19:=by kernel_rfl }
open Go.RowKit Go.Sort Go.Lib in
theorem Tryz.strconv_Itoa (n : Int) (h0 : -9223372036854775808 ≤ n) (h1 : n ≤ 9223372036854775807) (w : World) (htab : Lib.TabIs Tryz.prog w "internal/strconv.uint64pow10" .u64 Lib.pow10Tab) :
  Calls Tryz.prog 60 #[.int .i64 n] w fun e w' => e = .returned (.string ⟨(Lib.itoa n).toArray⟩) ∧ ∃ k os, w' = grow (w.drewN k) os := Any.strconv_Itoa Tryz.laysM171 n h0 h1 w htab
def Tryz.laysC172_ren:Go.Shelf.Ren:=⟨fun | 172=>106 | 244=>116 | 245=>117 | 247=>124 | 279=>125 | 280=>126 | 281=>127 | 282=>128 | 287=>136 | 316=>137 | 171=>60 | 205=>138 | 321=>144 | 322=>145 | 243=>109 | 246=>120 | 283=>130 | 284=>131 | 285=>132 | 286=>133 | 129=>140 | 317=>139 | 318=>141 | 319=>142 | 320=>143 | 337=>146 | 338=>147 | n=>n,fun | 9=>9 | 3=>3 | 75=>169 | 76=>170 | 4=>4 | 5=>5 | 167=>186 | 37=>174 | 0=>0 | 85=>187 | 2=>2 | 168=>189 | 53=>193 | 175=>201 | 46=>203 | 210=>206 | 127=>184 | 145=>218 | 143=>216 | 21=>21 | 171=>192 | 173=>196 | 212=>210 | 51=>211 | 20=>20 | 213=>212 | 232=>220 | 233=>221 | 80=>178 | n=>n,fun | 15=>1 | 16=>2 | 17=>4 | 18=>5 | 19=>6 | n=>n⟩
theorem Tryz.laysC172:Go.Proofs.LaysC.n172 Tryz.prog Tryz.laysC172_ren:={
 mixed:=by kernel_rfl
 f129:=Tryz.func140.trans (congrArg some (by kernel_rfl))
 f171:=Tryz.func60.trans (congrArg some (by kernel_rfl))
 f172:=Tryz.func106.trans (congrArg some (by kernel_rfl))
 f205:=Tryz.func138.trans (congrArg some (by kernel_rfl))
 f243:=Tryz.func109.trans (congrArg some (by kernel_rfl))
 f244:=Tryz.func116.trans (congrArg some (by kernel_rfl))
 f245:=Tryz.func117.trans (congrArg some (by kernel_rfl))
 f246:=Tryz.func120.trans (congrArg some (by kernel_rfl))
 f247:=Tryz.func124.trans (congrArg some (by kernel_rfl))
 f279:=Tryz.func125.trans (congrArg some (by kernel_rfl))
 f280:=Tryz.func126.trans (congrArg some (by kernel_rfl))
 f281:=Tryz.func127.trans (congrArg some (by kernel_rfl))
 f282:=Tryz.func128.trans (congrArg some (by kernel_rfl))
 f283:=Tryz.func130.trans (congrArg some (by kernel_rfl))
 f284:=Tryz.func131.trans (congrArg some (by kernel_rfl))
 f285:=Tryz.func132.trans (congrArg some (by kernel_rfl))
 f286:=Tryz.func133.trans (congrArg some (by kernel_rfl))
 f287:=Tryz.func136.trans (congrArg some (by kernel_rfl))
 f316:=Tryz.func137.trans (congrArg some (by kernel_rfl))
 f317:=Tryz.func139.trans (congrArg some (by kernel_rfl))
 f318:=Tryz.func141.trans (congrArg some (by kernel_rfl))
 f319:=Tryz.func142.trans (congrArg some (by kernel_rfl))
 f320:=Tryz.func143.trans (congrArg some (by kernel_rfl))
 f321:=Tryz.func144.trans (congrArg some (by kernel_rfl))
 f322:=Tryz.func145.trans (congrArg some (by kernel_rfl))
 f337:=Tryz.func146.trans (congrArg some (by kernel_rfl))
 f338:=Tryz.func147.trans (congrArg some (by kernel_rfl))
 t0:=Tryz.underlying0
 a0:=Tryz.isAgg0
 z0:=Tryz.sizeOf0
 v0:=Tryz.zeroValue0
 t2:=Tryz.underlying2
 a2:=Tryz.isAgg2
 z2:=Tryz.sizeOf2
 v2:=Tryz.zeroValue2
 t3:=Tryz.underlying3
 a3:=Tryz.isAgg3
 z3:=Tryz.sizeOf3
 v3:=Tryz.zeroValue3
 t4:=Tryz.underlying4
 a4:=Tryz.isAgg4
 z4:=Tryz.sizeOf4
 v4:=Tryz.zeroValue4
 t5:=Tryz.underlying5
 a5:=Tryz.isAgg5
 z5:=Tryz.sizeOf5
 v5:=Tryz.zeroValue5
 t9:=Tryz.underlying9
 a9:=Tryz.isAgg9
 z9:=Tryz.sizeOf9
 v9:=Tryz.zeroValue9
 t20:=Tryz.underlying20
 a20:=Tryz.isAgg20
 z20:=Tryz.sizeOf20
 v20:=Tryz.zeroValue20
 t21:=Tryz.underlying21
 a21:=Tryz.isAgg21
 z21:=Tryz.sizeOf21
 v21:=Tryz.zeroValue21
 t37:=Tryz.underlying174
 a37:=Tryz.isAgg174
 z37:=Tryz.sizeOf174
 v37:=Tryz.zeroValue174
 t46:=Tryz.underlying203
 a46:=Tryz.isAgg203
 z46:=Tryz.sizeOf203
 v46:=Tryz.zeroValue203
 t51:=Tryz.underlying211
 a51:=Tryz.isAgg211
 z51:=Tryz.sizeOf211
 v51:=Tryz.zeroValue211
 t53:=Tryz.underlying193
 a53:=Tryz.isAgg193
 z53:=Tryz.sizeOf193
 v53:=Tryz.zeroValue193
 t75:=Tryz.underlying169
 a75:=Tryz.isAgg169
 z75:=Tryz.sizeOf169
 v75:=Tryz.zeroValue169
 t76:=Tryz.underlying170
 a76:=Tryz.isAgg170
 z76:=Tryz.sizeOf170
 v76:=Tryz.zeroValue170
 t85:=Tryz.underlying187
 a85:=Tryz.isAgg187
 z85:=Tryz.sizeOf187
 v85:=Tryz.zeroValue187
 t127:=Tryz.underlying184
 a127:=Tryz.isAgg184
 z127:=Tryz.sizeOf184
 v127:=Tryz.zeroValue184
 t143:=Tryz.underlying216
 a143:=Tryz.isAgg216
 z143:=Tryz.sizeOf216
 v143:=Tryz.zeroValue216
 t145:=Tryz.underlying218
 a145:=Tryz.isAgg218
 z145:=Tryz.sizeOf218
 v145:=Tryz.zeroValue218
 t167:=Tryz.underlying186
 a167:=Tryz.isAgg186
 z167:=Tryz.sizeOf186
 v167:=Tryz.zeroValue186
 t168:=Tryz.underlying189
 a168:=Tryz.isAgg189
 z168:=Tryz.sizeOf189
 v168:=Tryz.zeroValue189
 t171:=Tryz.underlying192
 a171:=Tryz.isAgg192
 z171:=Tryz.sizeOf192
 v171:=Tryz.zeroValue192
 t173:=Tryz.underlying196
 a173:=Tryz.isAgg196
 z173:=Tryz.sizeOf196
 v173:=Tryz.zeroValue196
 t175:=Tryz.underlying201
 a175:=Tryz.isAgg201
 z175:=Tryz.sizeOf201
 v175:=Tryz.zeroValue201
 t210:=Tryz.underlying206
 a210:=Tryz.isAgg206
 z210:=Tryz.sizeOf206
 v210:=Tryz.zeroValue206
 t212:=Tryz.underlying210
 a212:=Tryz.isAgg210
 z212:=Tryz.sizeOf210
 v212:=Tryz.zeroValue210
 t213:=Tryz.underlying212
 a213:=Tryz.isAgg212
 z213:=Tryz.sizeOf212
 t232:=Tryz.underlying220
 a232:=Tryz.isAgg220
 z232:=Tryz.sizeOf220
 v232:=Tryz.zeroValue220
 t233:=Tryz.underlying221
 a233:=Tryz.isAgg221
 z233:=Tryz.sizeOf221
 v233:=Tryz.zeroValue221
 g15:=by kernel_rfl
 g16:=by kernel_rfl
 g17:=by kernel_rfl
 g18:=by kernel_rfl
 g19:=by kernel_rfl
 t80:=Tryz.underlying178
 a80:=Tryz.isAgg178
 z80:=Tryz.sizeOf178
 v80:=Tryz.zeroValue178
 i0:=by kernel_rfl
 i2:=by kernel_rfl
 i3:=by kernel_rfl
 i4:=by kernel_rfl
 i5:=by kernel_rfl
 i9:=by kernel_rfl
 i20:=by kernel_rfl
 i21:=by kernel_rfl
 i37:=by kernel_rfl
 i46:=by kernel_rfl
 i51:=by kernel_rfl
 i53:=by kernel_rfl
 i75:=by kernel_rfl
 i76:=by kernel_rfl
 i80:=by kernel_rfl
 i85:=by kernel_rfl
 i127:=by kernel_rfl
 i143:=by kernel_rfl
 i145:=by kernel_rfl
 i167:=by kernel_rfl
 i168:=by kernel_rfl
 i171:=by kernel_rfl
 i173:=by kernel_rfl
 i175:=by kernel_rfl
 i210:=by kernel_rfl
 i212:=by kernel_rfl
 i232:=by kernel_rfl
 i233:=by kernel_rfl
 m15:=by kernel_rfl
 m16:=by kernel_rfl
 m17:=by kernel_rfl
 m18:=by kernel_rfl
 m19:=by kernel_rfl
 c0:=by kernel_rfl
 c2:=by kernel_rfl
 c3:=by kernel_rfl
 c4:=by kernel_rfl
 c5:=by kernel_rfl
 c9:=by kernel_rfl
 c20:=by kernel_rfl
 c21:=by kernel_rfl
 c37:=by kernel_rfl
 c46:=by kernel_rfl
 c51:=by kernel_rfl
 c53:=by kernel_rfl
 c75:=by kernel_rfl
 c76:=by kernel_rfl
 c80:=by kernel_rfl
 c85:=by kernel_rfl
 c127:=by kernel_rfl
 c143:=by kernel_rfl
 c145:=by kernel_rfl
 c167:=by kernel_rfl
 c168:=by kernel_rfl
 c171:=by kernel_rfl
 c173:=by kernel_rfl
 c175:=by kernel_rfl
 c210:=by kernel_rfl
 c212:=by kernel_rfl
 c213:=by kernel_rfl
 c232:=by kernel_rfl
 c233:=by kernel_rfl }
open Go.RowKit in
theorem Tryz.strconv_Atoi_ok (s : ByteArray) (hmax : s.size ≤ 9223372036854775806) (v : Int) (h : Lib.atoiAll s.data.toList = .ok v) (w : World) :
  Calls Tryz.prog 106 #[.string s] w fun e w' => e = .returned (.tuple #[.int .i64 v, .nilIface]) ∧ (w' = w ∨ ∃ t, w' = Lib.bytesWorld w 5 t) := Any.strconv_Atoi_ok Tryz.laysC172 s hmax v h w
open Go.RowKit in
theorem Tryz.strconv_Atoi_syntax_var (s : ByteArray) (hlim : s.size ≤ 281474976710656) (h : Lib.atoiAll s.data.toList = Lib.NumEnd.syntax) (tp : TypeId) (p : Value) (w : World) (hvar : w.var? Tryz.prog "strconv.ErrSyntax" = some #[.iface tp p]) :
  Calls Tryz.prog 106 #[.string s] w fun e w' => ∃ N, e = .returned (.tuple #[.int .i64 0, .iface 189 (.pointer (some ⟨N, 0, none⟩))]) ∧ w.heap.size ≤ N ∧ w'.heap[N]? = some (.cells #[.string ⟨#[65, 116, 111, 105]⟩, .string s, .iface tp p] 206 (0, 0)) ∧ Below w.heap.size w w' := Any.strconv_Atoi_syntax_var Tryz.laysC172 s hlim h tp p w hvar
open Go.RowKit in
theorem Tryz.strconv_Atoi_range_var (s : ByteArray) (hlim : s.size ≤ 281474976710656) (h : Lib.atoiAll s.data.toList = .range) (tp : TypeId) (p : Value) (w : World) (hvar : w.var? Tryz.prog "strconv.ErrRange" = some #[.iface tp p]) :
  Calls Tryz.prog 106 #[.string s] w fun e w' => ∃ N, e = .returned (.tuple #[.int .i64 (Lib.atoiSat s.data.toList), .iface 189 (.pointer (some ⟨N, 0, none⟩))]) ∧ w.heap.size ≤ N ∧ w'.heap[N]? = some (.cells #[.string ⟨#[65, 116, 111, 105]⟩, .string s, .iface tp p] 206 (0, 0)) ∧ Below w.heap.size w w' := Any.strconv_Atoi_range_var Tryz.laysC172 s hlim h tp p w hvar
end Go.Proofs
namespace Go.Am
open Go Go.Proofs
set_option linter.unusedVariables false
set_option linter.unusedSimpArgs false
theorem Aeo {w w':World}{s:String}(hs:(Tryz.prog.globalNamed s).all (fun g=>Nat.blt g 7)=true)(e : ∀ b,b<7→w'.heap[b]? = w.heap[b]?):w'.var? Tryz.prog s=w.var? Tryz.prog s:=by
 unfold World.var?
 cases hq:Tryz.prog.globalNamed s with
 | none=>rfl
 | some g=>
  rw [hq] at hs
  simp only [Option.bind_some]
  rw [e g (by simpa using hs)]
def GWp (w : World) : Prop := ((∃ tp p, w.var? Tryz.prog "strconv.ErrRange" = some #[.iface tp p])) ∧ ((∃ tp p, w.var? Tryz.prog "strconv.ErrSyntax" = some #[.iface tp p])) ∧ (Lib.TabIs Tryz.prog w "internal/strconv.uint64pow10" .u64 Lib.pow10Tab)
theorem Akx {w w':World}(e : ∀ b,b<7→w'.heap[b]? = w.heap[b]?)(k:GWp w):GWp w':=⟨(by obtain⟨tp,p,h⟩:=k.1; exact⟨tp,p,by rw [Aeo (by kernel_rfl) e]; exact h⟩),(by obtain⟨tp,p,h⟩:=k.2.1; exact⟨tp,p,by rw [Aeo (by kernel_rfl) e]; exact h⟩),(by rw [Lib.TabIs,Aeo (by kernel_rfl) e]; exact k.2.2)⟩
def Nk:List (Aw×Aw×FuncId):=[([97,105,114,112,111,114,116],[111,118,101,114,102,108,105,103,104,116,47,115,121,110,116,97,120,46,100,101,102,105,110,105,116,105,111,110,115,36,54],189),([99,108,97,115,115],[111,118,101,114,102,108,105,103,104,116,47,115,121,110,116,97,120,46,100,101,102,105,110,105,116,105,111,110,115,36,55],194),([99,111,110,102,105,103],[111,118,101,114,102,108,105,103,104,116,47,115,121,110,116,97,120,46,100,101,102,105,110,105,116,105,111,110,115,36,51],180),([99,117,114,102,101,119],[111,118,101,114,102,108,105,103,104,116,47,115,121,110,116,97,120,46,100,101,102,105,110,105,116,105,111,110,115,36,56],197),([101,120,101,109,112,116],[111,118,101,114,102,108,105,103,104,116,47,115,121,110,116,97,120,46,100,101,102,105,110,105,116,105,111,110,115,36,57],201),([108,111,110,103,101,115,116],[111,118,101,114,102,108,105,103,104,116,47,115,121,110,116,97,120,46,100,101,102,105,110,105,116,105,111,110,115,36,49,49],205),([114,111,117,116,101],[111,118,101,114,102,108,105,103,104,116,47,115,121,110,116,97,120,46,100,101,102,105,110,105,116,105,111,110,115,36,53],186),([115,101,99,116,111,114],[111,118,101,114,102,108,105,103,104,116,47,115,121,110,116,97,120,46,100,101,102,105,110,105,116,105,111,110,115,36,50],172),([115,101,103,109,101,110,116],[111,118,101,114,102,108,105,103,104,116,47,115,121,110,116,97,120,46,100,101,102,105,110,105,116,105,111,110,115,36,52],183),([118,111,108,117,109,101],[111,118,101,114,102,108,105,103,104,116,47,115,121,110,116,97,120,46,100,101,102,105,110,105,116,105,111,110,115,36,49],168),([119,101,105,103,104,116],[111,118,101,114,102,108,105,103,104,116,47,115,121,110,116,97,120,46,100,101,102,105,110,105,116,105,111,110,115,36,49,48],203)]
instance gwI:GW Tryz.prog where
 n:=7
 G:=fun m w=>GWp w∧FMapAt w m 0 (Jf Nk)
 keep:=fun hn e k=>⟨Akx (fun b hb=>e b (Nat.lt_of_lt_of_le hb hn)) k.1,k.2.keep (Nat.lt_of_lt_of_le (by decide) hn) e⟩
 row:=fun b=>if b=0 then some [.mapc (Jf Nk)] else none
 rowOk:=by
  intro m w b r hn hm k hr
  by_cases h0:b=0
  ·subst h0
   simp at hr
   subst hr
   refine⟨by decide,fun mu M hM j hj=>?_⟩
   obtain rfl:j=0:=by simpa using hj
   exact k.2.rv hm hM
  simp [h0] at hr
theorem Ae3 {m : Nat} {w : World} (k : GW.G Tryz.prog m w) : (∃ tp p, w.var? Tryz.prog "strconv.ErrRange" = some #[.iface tp p]) := k.1.1
theorem Ad8 {m : Nat} {w : World} (k : GW.G Tryz.prog m w) : (∃ tp p, w.var? Tryz.prog "strconv.ErrSyntax" = some #[.iface tp p]) := k.1.2.1
theorem Ai4 {m : Nat} {w : World} (k : GW.G Tryz.prog m w) : Lib.TabIs Tryz.prog w "internal/strconv.uint64pow10" .u64 Lib.pow10Tab := k.1.2.2
theorem Fg:Tryz.prog.follows .mixedOrders=true:=by kernel_rfl
theorem Ds:ti Tryz.prog 3=some ⟨.int .i64,1,8,[.int .i64 0]⟩:=by kernel_rfl
theorem Oz:ti Tryz.prog 4=some ⟨.bool,1,1,[.bool false]⟩:=by kernel_rfl
theorem Cl:ti Tryz.prog 9=some ⟨.str,1,16,[.str []]⟩:=by kernel_rfl
theorem Agw:ti Tryz.prog 20=some ⟨.ifc,1,16,[.nili]⟩:=by kernel_rfl
theorem Ii:ti Tryz.prog 23=some ⟨.sl 54,1,24,[.emp]⟩:=by kernel_rfl
theorem Lo:ti Tryz.prog 24=some ⟨.sl 58,1,24,[.emp]⟩:=by kernel_rfl
theorem My:ti Tryz.prog 25=some ⟨.sl 77,1,24,[.emp]⟩:=by kernel_rfl
theorem Mw:ti Tryz.prog 26=some ⟨.sl 79,1,24,[.emp]⟩:=by kernel_rfl
theorem Mx:ti Tryz.prog 27=some ⟨.sl 81,1,24,[.emp]⟩:=by kernel_rfl
theorem Mp:ti Tryz.prog 28=some ⟨.sl 51,1,24,[.emp]⟩:=by kernel_rfl
theorem Lq:ti Tryz.prog 29=some ⟨.sl 85,1,24,[.emp]⟩:=by kernel_rfl
theorem E9:ti Tryz.prog 30=some ⟨.sl 62,1,24,[.emp]⟩:=by kernel_rfl
theorem Ei:ti Tryz.prog 32=some ⟨.st [(0,23),(1,24),(2,25),(3,26),(4,27),(5,28),(6,29),(7,30)],8,192,[.emp,.emp,.emp,.emp,.emp,.emp,.emp,.emp]⟩:=by kernel_rfl
theorem Ml:ti Tryz.prog 33=some ⟨.int .i64,1,8,[.int .i64 0]⟩:=by kernel_rfl
theorem Cj:ti Tryz.prog 42=some ⟨.sl 47,1,24,[.emp]⟩:=by kernel_rfl
theorem Cw:ti Tryz.prog 47=some ⟨.st [(0,3),(1,9),(2,3),(3,3)],4,40,[.int .i64 0,.str [],.int .i64 0,.int .i64 0]⟩:=by kernel_rfl
theorem Mq:ti Tryz.prog 49=some ⟨.sl 83,1,24,[.emp]⟩:=by kernel_rfl
theorem If:ti Tryz.prog 51=some ⟨.st [(0,9),(1,49)],2,40,[.str [],.emp]⟩:=by kernel_rfl
theorem Lj:ti Tryz.prog 52=some ⟨.sl 60,1,24,[.emp]⟩:=by kernel_rfl
theorem Jd:ti Tryz.prog 54=some ⟨.st [(0,9),(1,52)],2,40,[.str [],.emp]⟩:=by kernel_rfl
theorem Do:ti Tryz.prog 55=some ⟨.sl 9,1,24,[.emp]⟩:=by kernel_rfl
theorem O9:ti Tryz.prog 56=some ⟨.sl 3,1,24,[.emp]⟩:=by kernel_rfl
theorem Gx:ti Tryz.prog 58=some ⟨.st [(0,9),(1,55),(2,56),(3,3),(4,3)],5,80,[.str [],.emp,.emp,.int .i64 0,.int .i64 0]⟩:=by kernel_rfl
theorem Kl:ti Tryz.prog 60=some ⟨.st [(0,3),(1,3)],2,16,[.int .i64 0,.int .i64 0]⟩:=by kernel_rfl
theorem Dn:ti Tryz.prog 62=some ⟨.st [(0,3),(1,9),(2,9),(3,3),(4,3),(5,3),(6,60)],8,80,[.int .i64 0,.str [],.str [],.int .i64 0,.int .i64 0,.int .i64 0,.int .i64 0,.int .i64 0]⟩:=by kernel_rfl
theorem Yc:ti Tryz.prog 64=some ⟨.st [(0,3),(1,33)],2,16,[.int .i64 0,.int .i64 0]⟩:=by kernel_rfl
theorem Q3:ti Tryz.prog 66=some ⟨.ptr 68,1,8,[.nilp]⟩:=by kernel_rfl
theorem Wv:ti Tryz.prog 68=some ⟨.st [(0,42),(1,3),(2,32)],10,224,[.emp,.int .i64 0,.emp,.emp,.emp,.emp,.emp,.emp,.emp,.emp]⟩:=by kernel_rfl
theorem J0:ti Tryz.prog 77=some ⟨.st [(0,9),(1,55),(2,56)],3,64,[.str [],.emp,.emp]⟩:=by kernel_rfl
theorem Ih:ti Tryz.prog 79=some ⟨.st [(0,9),(1,9),(2,3),(3,3),(4,52)],5,72,[.str [],.str [],.int .i64 0,.int .i64 0,.emp]⟩:=by kernel_rfl
theorem Ie:ti Tryz.prog 81=some ⟨.st [(0,9),(1,9),(2,9),(3,3),(4,3),(5,55),(6,56)],7,112,[.str [],.str [],.str [],.int .i64 0,.int .i64 0,.emp,.emp]⟩:=by kernel_rfl
theorem N8:ti Tryz.prog 83=some ⟨.st [(0,9),(1,3)],2,24,[.str [],.int .i64 0]⟩:=by kernel_rfl
theorem Ls:ti Tryz.prog 85=some ⟨.st [(0,9),(1,3),(2,3),(3,3)],4,40,[.str [],.int .i64 0,.int .i64 0,.int .i64 0]⟩:=by kernel_rfl
theorem Aa2:ti Tryz.prog 87=some ⟨.ptr 89,1,8,[.nilp]⟩:=by kernel_rfl
theorem Vp:ti Tryz.prog 89=some ⟨.st [(0,42),(1,4)],2,32,[.emp,.bool false]⟩:=by kernel_rfl
theorem Aka:ti Tryz.prog 113=some ⟨.int .i64,1,8,[.int .i64 0]⟩:=by kernel_rfl
theorem Yq:ti Tryz.prog 114=some ⟨.fn,1,8,[.nilf]⟩:=by kernel_rfl
theorem Vl:ti Tryz.prog 115=some ⟨.arr 6 114,6,48,[.nilf,.nilf,.nilf,.nilf,.nilf,.nilf]⟩:=by kernel_rfl
theorem Aj7:ti Tryz.prog 117=some ⟨.st [(0,115)],6,48,[.nilf,.nilf,.nilf,.nilf,.nilf,.nilf]⟩:=by kernel_rfl
theorem No:ti Tryz.prog 120=some ⟨.st [(0,9),(1,3),(2,42)],3,48,[.str [],.int .i64 0,.emp]⟩:=by kernel_rfl
theorem Qe:ti Tryz.prog 140=some ⟨.fn,1,8,[.nilf]⟩:=by kernel_rfl
theorem Pp:ti Tryz.prog 142=some ⟨.map 9 140,1,8,[.mnil]⟩:=by kernel_rfl
theorem Anr:ti Tryz.prog 169=some ⟨.ifc,1,16,[.nili]⟩:=by kernel_rfl
theorem Agn:Hu Tryz.prog [(0,23),(1,24),(2,25),(3,26),(4,27),(5,28),(6,29),(7,30)]=some [(0,1),(1,1),(2,1),(3,1),(4,1),(5,1),(6,1),(7,1)]:=by kernel_rfl
theorem Am3:Hu Tryz.prog [(0,9),(1,49)]=some [(0,1),(1,1)]:=by kernel_rfl
theorem Ane:Hu Tryz.prog [(0,9),(1,52)]=some [(0,1),(1,1)]:=by kernel_rfl
theorem Am2:Hu Tryz.prog [(0,9),(1,55),(2,56),(3,3),(4,3)]=some [(0,1),(1,1),(2,1),(3,1),(4,1)]:=by kernel_rfl
theorem An4:Hu Tryz.prog [(0,42),(1,3),(2,32)]=some [(0,1),(1,1),(2,8)]:=by kernel_rfl
theorem An3:Hu Tryz.prog [(0,9),(1,55),(2,56)]=some [(0,1),(1,1),(2,1)]:=by kernel_rfl
theorem An8:Hu Tryz.prog [(0,42),(1,4)]=some [(0,1),(1,1)]:=by kernel_rfl
theorem Aii {o:BinOp}{x y:Operand}{a b:AV}(ha:a.isAgg=true)(hb:b.isAgg=true):K4 Tryz.prog o 60 x y a b=true:=Vi ha hb (by kernel_rfl)
theorem Ahe {aFrom:Int}{aTo:Int}{bFrom:Int}{bTo:Int}:Ng Tryz.prog .neq 60 (AV.agg [(.int .i64 aFrom),(.int .i64 aTo)]) (AV.agg [(.int .i64 bFrom),(.int .i64 bTo)])=some (.bool (!((aFrom==bFrom)&&(aTo==bTo)))):=by
 have he60:S8 Tryz.prog 60=true:=by kernel_rfl
 simp only [Ng,Ts,he60,if_true,List.drop_succ_cons,List.drop_zero,List.take_succ_cons,List.take_zero,List.take_nil,Yn,Wz,Qj,J1,Ds,Kl,TK.agg,Nat.reduceAdd,Nat.reduceLT,Nat.reduceLeDiff,List.length_cons,List.length_nil,List.getD_cons_zero,List.getD_cons_succ,Vf,Bool.and_true,Option.map_some,if_false,Bool.false_eq_true,reduceCtorEq,Nat.zero_add]
 try rfl
theorem Ad5 {o:BinOp}{x y:Operand}{a b:AV}(ha:a.isAgg=true)(hb:b.isAgg=true):K4 Tryz.prog o 62 x y a b=true:=Vi ha hb (by kernel_rfl)
theorem Ad4 {aKind:Int}{aC:Aw}{aA:Aw}{aClass:Int}{aAirport:Int}{aN:Int}{aHours_From:Int}{aHours_To:Int}{bKind:Int}{bC:Aw}{bA:Aw}{bClass:Int}{bAirport:Int}{bN:Int}{bHours_From:Int}{bHours_To:Int}:Ng Tryz.prog .neq 62 (AV.agg [(.int .i64 aKind),(.str aC),(.str aA),(.int .i64 aClass),(.int .i64 aAirport),(.int .i64 aN),(.int .i64 aHours_From),(.int .i64 aHours_To)]) (AV.agg [(.int .i64 bKind),(.str bC),(.str bA),(.int .i64 bClass),(.int .i64 bAirport),(.int .i64 bN),(.int .i64 bHours_From),(.int .i64 bHours_To)])=some (.bool (!((aKind==bKind)&&((aC==bC)&&((aA==bA)&&((aClass==bClass)&&((aAirport==bAirport)&&((aN==bN)&&((aHours_From==bHours_From)&&(aHours_To==bHours_To)))))))))):=by
 have he60:S8 Tryz.prog 60=true:=by kernel_rfl
 have he62:S8 Tryz.prog 62=true:=by kernel_rfl
 simp only [Ng,Ts,he60,he62,if_true,List.drop_succ_cons,List.drop_zero,List.take_succ_cons,List.take_zero,List.take_nil,Yn,Wz,Qj,J1,Ds,Cl,Kl,Dn,TK.agg,Nat.reduceAdd,Nat.reduceLT,Nat.reduceLeDiff,List.length_cons,List.length_nil,List.getD_cons_zero,List.getD_cons_succ,Vf,Bool.and_true,Option.map_some,if_false,Bool.false_eq_true,reduceCtorEq,Nat.zero_add]
 try rfl
theorem Ag5 {o:BinOp}{x y:Operand}{a b:AV}(ha:a.isAgg=true)(hb:b.isAgg=true):K4 Tryz.prog o 83 x y a b=true:=Vi ha hb (by kernel_rfl)
theorem Ahc {aName:Aw}{Hu:Int}{bName:Aw}{bPlaces:Int}:Ng Tryz.prog .neq 83 (AV.agg [(.str aName),(.int .i64 Hu)]) (AV.agg [(.str bName),(.int .i64 bPlaces)])=some (.bool (!((aName==bName)&&(Hu==bPlaces)))):=by
 have he83:S8 Tryz.prog 83=true:=by kernel_rfl
 simp only [Ng,Ts,he83,if_true,List.drop_succ_cons,List.drop_zero,List.take_succ_cons,List.take_zero,List.take_nil,Yn,Wz,Qj,J1,Ds,Cl,N8,TK.agg,Nat.reduceAdd,Nat.reduceLT,Nat.reduceLeDiff,List.length_cons,List.length_nil,List.getD_cons_zero,List.getD_cons_succ,Vf,Bool.and_true,Option.map_some,if_false,Bool.false_eq_true,reduceCtorEq,Nat.zero_add]
 try rfl
theorem Aij {o:BinOp}{x y:Operand}{a b:AV}(ha:a.isAgg=true)(hb:b.isAgg=true):K4 Tryz.prog o 85 x y a b=true:=Vi ha hb (by kernel_rfl)
theorem Ahn {aName:Aw}{aSlow:Int}{aFast:Int}{Hu:Int}{bName:Aw}{bSlow:Int}{bFast:Int}{bPlaces:Int}:Ng Tryz.prog .neq 85 (AV.agg [(.str aName),(.int .i64 aSlow),(.int .i64 aFast),(.int .i64 Hu)]) (AV.agg [(.str bName),(.int .i64 bSlow),(.int .i64 bFast),(.int .i64 bPlaces)])=some (.bool (!((aName==bName)&&((aSlow==bSlow)&&((aFast==bFast)&&(Hu==bPlaces)))))):=by
 have he85:S8 Tryz.prog 85=true:=by kernel_rfl
 simp only [Ng,Ts,he85,if_true,List.drop_succ_cons,List.drop_zero,List.take_succ_cons,List.take_zero,List.take_nil,Yn,Wz,Qj,J1,Ds,Cl,Ls,TK.agg,Nat.reduceAdd,Nat.reduceLT,Nat.reduceLeDiff,List.length_cons,List.length_nil,List.getD_cons_zero,List.getD_cons_succ,Vf,Bool.and_true,Option.map_some,if_false,Bool.false_eq_true,reduceCtorEq,Nat.zero_add]
 try rfl
end Go.Am

/- Written by shrink.py from texts of ours: comments struck, what is not reached left out, names short. -/
import Derived.Test.YtjidhdlbojmlfaaGreatDoorU3
import Derived.Test.YtjidhdlbojmlfaaGreatDoorU1
import Derived.Test.YtjidhdlbojmlfaaGreatDoorU2
import Derived.RangeFuncIn
import Derived.RangeFuncLeaves
import Derived.Deep.DeepHandedRow
import Derived.Lib.LaidU8
import Derived.Lay
import Derived.MakeChecks
import Derived.LaidMore
import Derived.WideKeyElems2
import Derived.KernelRfl
import Derived.Lib.Bytealg
import Derived.Lib.ItoaNum
import Derived.Lib.Join
import Derived.Lib.AtoiAll
import Derived.Lib.ItoaMem
import Derived.Lib.AtoiAllCases
import Derived.Shelf.Strings.Builder1
import Derived.Shelf.Strings.Builder2
import Derived.Shelf.Strings.OnBuilder
import Derived.Shelf.Small.Strs
import Derived.Shelf.Strings.Builder2Cap
import Derived.Shelf.Strconv.Atoi
import Derived.Shelf.Strconv.Itoa0
import Derived.Shelf.Strconv.Itoa1
import Derived.Shelf.LaysM
import Derived.Shelf.Strconv.Itoa2
import Derived.Shelf.Strconv.Itoa3
import Derived.Shelf.Strconv.AtoiErrFast
import Derived.Shelf.Strconv.ParseIntEmpty
import Derived.Shelf.Strconv.AtoiFail
import Derived.Shelf.Strconv.Clone
import Derived.Shelf.Strconv.SyntaxError
import Derived.Shelf.LaysC
import Derived.Shelf.Strconv.ToError
import Derived.Shelf.Strconv.Lower
import Derived.Shelf.Strconv.ParseUint10
import Derived.Shelf.Strconv.ParseUint10Empty
import Derived.Shelf.Strconv.ParseUint10Any
import Derived.Shelf.Strconv.ParseInt10
import Derived.Shelf.Strconv.AtoiLong
import Derived.Shelf.Strconv.AtoiInnerAll
import Derived.Shelf.Strconv.RangeError
import Derived.Shelf.Strconv.ToErrorRange
import Derived.Shelf.Strconv.AtoiAll
import Derived.Shelf.Strconv.ErrVarAll
import Derived.Shelf.Strings.Search1
import Derived.Test.YtjidhdlbojmlfaaGreatDoorProg
namespace Go.Am
open Go
set_option linter.unusedSimpArgs false
set_option linter.unusedVariables false
set_option linter.unusedSectionVars false
inductive AFz (h h2:Ae):AO→AO→Prop
 | same (x:AO):AFz h h2 x x
 | rows (g st:Nat) (rs rs':List (List AV)) (hl:rs.length=rs'.length) (hr : ∀ r ∈ rs',Ee st r) (hc : ∀ i j,i<rs.length→j<st→Fz h h2 (cell rs i j) (cell rs' i j)):AFz h h2 (.rows g st rs) (.rows g st rs')
def HFz (h h2:Ae):Prop := ∀ o y,h2 o=some y → ∃ x,h o=some x∧AFz h h2 x y
theorem AFz.gen {h h2:Ae}{x y:AO}(k:AFz h h2 x y):x.gen=y.gen:=by cases k <;> rfl
theorem HFz.subG {h h2:Ae}(k:HFz h h2):Adk h2 h:=fun o y e=>let ⟨x,h1,h2⟩:=k o y e; ⟨x,h1,h2.gen⟩
theorem Sim.fz {P:Program}[GW P]{B:Base P}{mu:Mu}{h h2:Ae}{w:World}(s:Sim B mu h w)(k:HFz h h2):Sim B mu h2 w:=by
 refine⟨s.base,s.muOk,s.fin,?_,?_,?_,?_,s.glob,fun o g x e=>by
  obtain⟨y,h1,hx⟩:=k o _ e
  cases hx with
  | same _=>exact s.blks o g x h1⟩
 ·obtain⟨N,hN⟩:=s.finh
  refine⟨N,fun o ho=>?_⟩
  cases hq:h2 o with
  | none=>rfl
  | some y=>obtain⟨x,h1,_⟩:=k o y hq; rw [hN o ho] at h1; cases h1
 ·intro o g st rs e
  obtain⟨x,h1,hx⟩:=k o _ e
  cases hx with
  | same _=>
   obtain⟨l,k1,k2,k3,k4,k5,k6⟩:=s.rows o g st rs h1
   exact⟨l,k1,k2,k3,k4,k5,fun i j hi hj=>let ⟨c,c1,c2⟩:=k6 i j hi hj; ⟨c,c1,Mr s k.subG (.same _) c2⟩⟩
  | rows _ _ rs0 _ hl hr hc=>
   obtain⟨l,k1,k2,k3,k4,k5,k6⟩:=s.rows o g st rs0 h1
   exact⟨l,k1,k2,k3,by rw [← hl]; exact k4,hr,fun i j hi hj=>let ⟨c,c1,c2⟩:=k6 i j (hl ▸ hi) hj; ⟨c,c1,Mr s k.subG (hc i j (hl ▸ hi) hj) c2⟩⟩
 ·intro o g es e
  obtain⟨x,h1,hx⟩:=k o _ e
  cases hx with
  | same _=>
   obtain⟨l,k1,k2,ens,clock,k3,k4,k5⟩:=s.maps o g es h1
   exact⟨l,k1,k2,ens,clock,k3,k4,fun i hi=>⟨Mr s k.subG (.same _) (k5 i hi).1,Mr s k.subG (.same _) (k5 i hi).2⟩⟩
 ·intro o o' x x' l l' e e' h1 h2 hb
  obtain⟨y,k1,k2⟩:=k _ _ e
  obtain⟨y',k1',k2'⟩:=k _ _ e'
  exact s.inj o o' y y' l l' k1 k1' (by rw [k2.gen]; exact h1) (by rw [k2'.gen]; exact h2) hb
section
variable {P:Program} [GW P] {f:FuncId} {n:Nat} {d:FK} {fr:Nat→AV} {ds:List AD} {h h2:Ae} {u:AU} {Q:QT} {k:List Item}
theorem Adh {fn:Func}{vs:List AV}{v':AV}(hf:P.funcs[f]? = some fn)(hx:Lt P h fr fn.results.toList=some vs)(hs:HFz h h2)(hz:Fz h h2 (Ku vs) v')(hu:d=false)(hq:Q (.ret v') h2 u):Qd P f n d .ret fr [] h u Q:=by
 intro B mu w a cs todo mode p hm
 obtain⟨c,h1,h2'⟩:=Sx p.sim p.fr hx
 have hd:a.defers=[]:=p.ds
 have hmode:=hm.ret_inv
 refine⟨.returned c,w,cs,_,.ret v',h2,mu,u,hq,Steps.refl P _,rfl,rfl,(by subst hu; exact⟨hmode,hd,fn,hf,h1⟩),Mr p.sim hs.subG hz h2',p.sim.fz hs,(F6.subG hs.subG).g,?_⟩
 subst hu
 rfl
end
inductive HL (h h2:Ae):List (Option AO)→List (Option AO)→Prop
 | nil:HL h h2 [] []
 | keep {x:Option AO} {xs ys:List (Option AO)} (r:HL h h2 xs ys):HL h h2 (x::xs) (x::ys)
 | drop {x:Option AO} {xs ys:List (Option AO)} (r:HL h h2 xs ys):HL h h2 (x::xs) (none::ys)
 | fz {g st:Nat} {row row':List AV} {xs ys:List (Option AO)} (hz:LF h h2 row row') (hl:row'.length=st) (hf:row'.all AV.flat=true) (r:HL h h2 xs ys):HL h h2 (some (.rows g st [row])::xs) (some (.rows g st [row'])::ys)
theorem HL.get {h h2:Ae}{xs ys:List (Option AO)}(k:HL h h2 xs ys):xs.length=ys.length ∧ ∀ (j:Nat) (y:AO),ys[j]? = some (some y) → ∃ x,xs[j]? = some (some x)∧AFz h h2 x y:=by
 induction k with
 | nil=>exact⟨rfl,fun j y e=>by simp at e⟩
 | keep r ih=>
  refine⟨by simp [ih.1],fun j y e=>?_⟩
  cases j with
  | zero=>simp only [List.getElem?_cons_zero,Option.some.injEq] at e; subst e; exact⟨y,by simp,.same _⟩
  | succ j=>simpa using ih.2 j y (by simpa using e)
 | drop r ih=>
  refine⟨by simp [ih.1],fun j y e=>?_⟩
  cases j with
  | zero=>simp at e
  | succ j=>simpa using ih.2 j y (by simpa using e)
 | @fz g st row row' xs ys hz hl hf r ih=>
  refine⟨by simp [ih.1],fun j y e=>?_⟩
  cases j with
  | zero=>
   simp only [List.getElem?_cons_zero,Option.some.injEq] at e
   subst e
   refine⟨.rows g st [row],by simp only [List.getElem?_cons_zero],.rows g st [row] [row'] rfl ?_ ?_⟩
   ·intro r hr
    rw [List.mem_singleton.1 hr]
    exact⟨hl,fun v hv=>List.all_eq_true.1 hf v hv⟩
   ·intro i j hi hj
    have:i=0:=by simpa using hi
    subst this
    have:=hz.all.2 j (by rw [hz.all.1,hl]; exact hj)
    simpa [cell] using this
  | succ j=>simpa using ih.2 j y (by simpa using e)
theorem HL.hfz {h0:Ae}{ids:List Nat}{N:Nat}{xs ys:List (Option AO)}(hI:Ids h0 ids N)(hl:xs.length=N)(k:HL (hp h0 ids xs) (hp h0 ids ys) xs ys):HFz (hp h0 ids xs) (hp h0 ids ys):=by
 intro o y e
 obtain⟨k1,k2⟩:=k.get
 by_cases ho:o ∈ ids
 ·obtain⟨j,hj,rfl⟩:=List.mem_iff_getElem.1 ho
  have ej:ids[j]=ix ids j:=by simp [ix,List.getD,hj]
  rw [ej] at e ⊢
  have hjl:j<ys.length:=by rw [← k1,hl,← hI.len]; exact hj
  have hy:=hI.at (xs:=ys) (j:=j) (x:=ys[j]) (by rw [← k1,hl]) (List.getElem?_eq_getElem hjl)
  rw [hy] at e
  obtain⟨x,hx,hz⟩:=k2 j y (by rw [List.getElem?_eq_getElem hjl,e])
  exact⟨x,hI.at hl hx,hz⟩
 ·rw [Ql ho] at e
  exact⟨y,by rw [Ql ho]; exact e,.same _⟩
def Rc:List Nat→List (Option AO)→List (Option AO)
 | [],xs=>xs
 | j::js,xs=>Rc js (xs.set j none)
def Q3:List Nat→List (Option AO)→List (Option AO)→List (Option AO)
 | j::js,y::ys,xs=>(Q3 js ys (xs.set j none)).set j y
 | _,_,xs=>xs
def Vm (ids:List Nat):List Nat→List Nat
 | []=>[]
 | j::js=>ix ids j::Vm ids js
def P1 (N:Nat):List Nat→Bool
 | []=>true
 | j::js=>Nat.blt j N && !js.contains j&&P1 N js
theorem Afg : ∀ (js:List Nat) (xs:List (Option AO)),(Rc js xs).length=xs.length
 | [],_=>rfl
 | j::js,xs=>by rw [Rc,Afg js]; simp
theorem Adb : ∀ (js:List Nat) (ys xs:List (Option AO)),(Q3 js ys xs).length=xs.length
 | [],_,_=>by simp [Q3]
 | _::_,[],_=>by simp [Q3]
 | j::js,y::ys,xs=>by rw [Q3,List.length_set,Adb js]; simp
theorem Aca : ∀ (js:List Nat) (xs:List (Option AO)) (i:Nat),xs[i]? = some none→(Rc js xs)[i]? = some none
 | [],_,_,h=>h
 | j::js,xs,i,h=>Aca js _ i (by
  rw [List.getElem?_set]
  split
  ·rename_i hq; subst hq
   rw [if_pos]
   rcases Nat.lt_or_ge j xs.length with hh | hh
   ·exact hh
   ·rw [List.getElem?_eq_none hh] at h; cases h
  ·exact h)
theorem Ag9 : ∀ (js:List Nat) (xs:List (Option AO)) (i:Nat),i ∈ js→i<xs.length→(Rc js xs)[i]? = some none
 | j::js,xs,i,hm,hi=>by
  rcases List.mem_cons.1 hm with rfl | hm
  ·exact Aca js _ i (by simp [hi])
  ·exact Ag9 js _ i hm (by simpa using hi)
section
variable {h0:Ae} {ids:List Nat} {N:Nat}
theorem X3 (hI:Ids h0 ids N) : ∀ {js:List Nat} {ys xs:List (Option AO)},xs.length=N→js.length=ys.length→P1 N js=true→hp (hp h0 ids (Rc js xs)) (Vm ids js) ys=hp h0 ids (Q3 js ys xs)
 | [],[],xs,_,_,_=>rfl
 | j::js,y::ys,xs,hl,hj,hk=>by
  simp only [P1,Bool.and_eq_true] at hk
  simp only [Vm,hp,Rc,Q3]
  rw [X3 hI (js:=js) (ys:=ys) (xs:=xs.set j none) (by simpa using hl) (by simpa using hj) hk.2]
  rw [hI.set (by rw [Adb]; simpa using hl) hk.1.1]
theorem Ids.sub' (hI:Ids h0 ids N){js:List Nat}{xs:List (Option AO)}(hl:xs.length=N)(hk:P1 N js=true):Ids (hp h0 ids (Rc js xs)) (Vm ids js) js.length:=by
 have hlt : ∀ {js:List Nat},P1 N js=true → ∀ j ∈ js,j<N:=by
  intro js
  induction js with
  | nil=>intro _ j hj; cases hj
  | cons i js ih=>
   intro hk j hj
   simp only [P1,Bool.and_eq_true] at hk
   rcases List.mem_cons.1 hj with rfl | hj
   ·simpa using hk.1.1
   ·exact ih hk.2 j hj
 have hmem : ∀ {js:List Nat} {o:Nat},o ∈ Vm ids js → ∃ j ∈ js,o=ix ids j:=by
  intro js
  induction js with
  | nil=>intro o ho; cases ho
  | cons i js ih=>
   intro o ho
   rcases List.mem_cons.1 ho with rfl | ho
   ·exact⟨i,List.mem_cons_self ..,rfl⟩
   ·obtain⟨j,h1,h2⟩:=ih ho; exact⟨j,List.mem_cons_of_mem _ h1,h2⟩
 have hinj : ∀ {i j:Nat},i<N→j<N→ix ids i=ix ids j→i=j:=by
  intro i j hi hj e
  rw [← hI.len] at hi hj
  simp only [ix,List.getD,List.getElem?_eq_getElem hi,List.getElem?_eq_getElem hj,Option.getD_some] at e
  rcases Nat.lt_trichotomy i j with hh | hh | hh
  ·exact absurd e (List.pairwise_iff_getElem.1 hI.nodup i j hi hj hh)
  ·exact hh
  ·exact absurd e.symm (List.pairwise_iff_getElem.1 hI.nodup j i hj hi hh)
 refine⟨?_,?_,?_⟩
 ·have key : ∀ {js:List Nat},P1 N js=true→(Vm ids js).Nodup:=by
   intro js
   induction js with
   | nil=>intro _; exact List.nodup_nil
   | cons i js ih=>
    intro hk
    have hk':=hk
    simp only [P1,Bool.and_eq_true] at hk
    refine List.nodup_cons.2 ⟨fun hm=>?_,ih hk.2⟩
    obtain⟨j,h1,h2⟩:=hmem hm
    have:=hinj (by simpa using hk.1.1) (hlt hk.2 j h1) h2
    subst this
    have:=hk.1.2
    simp [h1] at this
  exact key hk
 ·intro o ho
  obtain⟨j,h1,rfl⟩:=hmem ho
  exact hI.at (by rw [Afg]; exact hl) (Ag9 js xs j h1 (by rw [hl]; exact hlt hk j h1))
 ·clear hk
  induction js with
  | nil=>rfl
  | cons i js ih=>simp only [Vm,List.length_cons]; rw [ih]
end
def Ce {α:Type}(S:α→AV→Ae→Prop)(h0:Ae)(m:R α):AR→Ae→Prop:=fun r h'=>match m with
 | .ok a => ∃ v,r=.ret v∧S a v h'
 | .pan v=>r=.panic v.av∧h'=h0
 | .bad=>False
def Ab2 {α:Type}(S:α→AV→Ae→Prop)(h0:Ae):Spec α:=⟨fun m=>m≠.bad,fun h=>h rfl,fun m r h' _=>Ce S h0 m r h'⟩
def tkf (ids:List Nat):Nat→Nat→List Nat
 | 0,_=>[]
 | k+1,j=>ix ids j::tkf ids k (j+1)
theorem Adm : ∀ (ids:List Nat) (k j:Nat),j+k≤ids.length→(ids.drop j).take k=tkf ids k j
 | ids,0,j,_=>by simp [tkf]
 | ids,k+1,j,h=>by
  have hj:j<ids.length:=by omega
  rw [List.drop_eq_getElem_cons hj,List.take_succ_cons,tkf,Adm ids k (j+1) (by omega)]
  simp [ix,List.getD,hj]
section
variable {P:Program} [GW P] {f:FuncId} {n:Nat} {α:Type} {m:R α} {S:α→AV→Ae→Prop} {h0:Ae}
theorem A6 {fn : Func} {c : Code} {args : List AV} {os0 : List Nat} {K : Nat} {xs : List (Option AO)} (N : Nat) (hf : P.funcs[f]? = some fn) (hb : fn.body = some c) (hn : fn.name ≠ "runtime.NumGoroutine") (hnt : fn.ntmps = n) (hl : Nat.ble args.length n = true)
  (hI0 : Ids h0 os0 K) (hx : xs.length = K)
  (hr : ∀ ids, (∀ j, Nat.blt j K = true → ix ids j = ix os0 j) → Ids h0 ids (K + N) → WR P f n false (Ab2 S h0) m [.code c] (A2 (Wd 0 args)) [] (hp h0 ids (xs ++ List.replicate N none)) .ret) :
  m ≠ .bad → Bh P f args (hp h0 os0 xs) (Ce S h0 m) := by
 intro hb'
 refine Vi hf hb hn hnt (by simpa using hl) ?_
 refine Yk N os0 fun os h1 h2 h3 h4 => ?_
 have hout : ∀ o ∈ os, o ∉ os0 := fun o ho => h4 o ho
 have hI : Ids h0 (os0 ++ os) (K + N) := by
  refine ⟨List.nodup_append.2 ⟨hI0.nodup, h2, fun a ha b hb hq => hout b hb (hq ▸ ha)⟩, fun o ho => ?_, by simp [hI0.len, h1]⟩
  rcases List.mem_append.1 ho with ho | ho
  ·exact hI0.fresh o ho
  ·have := h3 o ho
   rwa [Ql (hout o ho)] at this
 have e : hp h0 (os0 ++ os) (xs ++ List.replicate N none) = hp h0 os0 xs := by
  rw [U5 (by rw [hI0.len, hx]), Rk fun o ho => hI.fresh o (List.mem_append_right _ ho)]
 have := hr (os0 ++ os) (fun j hj => by
  have hj' : j < os0.length := by rw [hI0.len]; simpa using hj
  simp [ix, List.getD, List.getElem?_append_left hj']) hI hb'
 rw [e] at this
 refine Q1 (fun t => ?_) this
 rcases Rm args 0 t with h | ⟨_, h⟩
 ·exact .inl h
 ·exact .inr h
section
variable {ids:List Nat} {xs:List (Option AO)} {K N:Nat} {l:List (Nat×AV)} {k:List Item} {u:AU}
theorem Afe (hI:Ids h0 ids (K+N)){ys:List (Option AO)}(hy:ys.length=K):hp h0 ids (ys++List.replicate N none)=hp h0 (tkf ids K 0) ys:=by
 have e:=Adm ids K 0 (by rw [hI.len]; omega)
 rw [List.drop_zero] at e
 rw [← e]
 have e2:ids=ids.take K++ids.drop K:=(List.take_append_drop K ids).symm
 conv=>lhs; rw [e2]
 rw [U5 (by rw [List.length_take,hI.len,hy]; omega),Rk fun o ho=>hI.fresh o (List.mem_of_mem_drop ho)]
theorem Dh {fn:Func}{a:α}{vs:List AV}{v:AV}(ys:List (Option AO))(hf:P.funcs[f]? = some fn)(hI:Ids h0 ids (K+N))(hl:xs.length=K+N)(hr:Lt P (hp h0 ids xs) (A2 l) fn.results.toList=some vs)
  (hy:ys.length=K) (hx:HL (hp h0 ids xs) (hp h0 ids (ys++List.replicate N none)) xs (ys++List.replicate N none)) (hz:Fz (hp h0 ids xs) (hp h0 ids (ys++List.replicate N none)) (Ku vs) v) (hS:S a v (hp h0 (tkf ids K 0) ys)) :
  WR P f n false (Ab2 S h0) (.ok a) (.code .ret::k) (A2 l) [] (hp h0 ids xs) u:=fun _=>by
 refine Yf (Adh hf hr (hx.hfz hI hl) hz rfl ⟨v,rfl,?_⟩)
 rw [Afe hI hy]; exact hS
theorem B2 {fn:Func}{a:α}{vs:List AV}{v:AV}(ys:List (Option AO))(hf:P.funcs[f]? = some fn)(hI:Ids h0 ids (K+N))(hl:xs.length=K+N)(hr:Lt P (hp h0 ids xs) (A2 l) fn.results.toList=some vs)
  (hy:ys.length=K) (hx:HL (hp h0 ids xs) (hp h0 ids (ys++List.replicate N none)) xs (ys++List.replicate N none)) (hz:Fz (hp h0 ids xs) (hp h0 ids (ys++List.replicate N none)) (Ku vs) v) (hS:S a v (hp h0 (tkf ids K 0) ys)) :
  WR P f n false (Ab2 S h0) (.ok a) [] (A2 l) [] (hp h0 ids xs) u:=fun _=>by
 refine Aan (Adh hf hr (hx.hfz hI hl) hz rfl ⟨v,rfl,?_⟩)
 rw [Afe hI hy]; exact hS
theorem Ao {fn:Func}{v:PV}{fr:Nat→AV}(hf:P.funcs[f]? = some fn)(hI:Ids h0 ids (K+N)):WU P f n false (Ab2 S h0) (.pan v) (.pan v.av false) fr [] (hp h0 ids xs) u:=fun _=>
 Adu hf (hI.sub xs) (.same _) ⟨rfl,rfl⟩
end
end
section
variable {P:Program} [GW P] {f:FuncId} {n:Nat} {d:FK} {β γ:Type} {Q:Spec β} {m:R β} {ds:List AD} {u:AU} {k:List Item} {l:List (Nat×AV)} {F:γ→R β}
variable {all r:List Oper} {ty:TypeId} {pos:String} {after:Array Edge} {h0:Ae} {ids:List Nat} {xs:List (Option AO)} {N:Nat}
theorem Akf {ops:List Oper}{fr:Nat→AV}(js:List Nat){xs zs:List (Option AO)}(ys:List (Option AO))(hI:Ids h0 ids N)(hl:xs.length=N)(hk:P1 N js=true)(hz:js.length=zs.length)(e:Q3 js zs xs=ys)(hr:WO P f n d Q k all m ops fr ds (hp h0 ids ys) u) :
  WO P f n d Q k all m ops fr ds (hp (hp h0 ids (Rc js xs)) (Vm ids js) zs) u:=by
 subst e
 rw [X3 hI hl hz hk]; exact hr
theorem Ak {α:Type}{dst:Option Tmp}{x:Operand}{as0:List Operand}{ts:Array TypeId}{g:FuncId}{fst cap A:List AV}{gd:Option (Nat×Bool)}{mg:R α}{S:α→AV→Ae→Prop}{rest:α→R γ}{zs:List (Option AO)}(js:List Nat)(hI:Ids h0 ids N)(hl:xs.length=N)(hk:P1 N js=true)
  (hc:mg≠.bad→Bh P g A (hp (hp h0 ids (Rc js xs)) (Vm ids js) zs) (Ce S (hp h0 ids (Rc js xs)) mg)) (hz:js.length=zs.length) (e2:Q3 js zs xs=xs)
  (ht:G7 n dst=true) (hw:Fh all (A2 l) ⟨dst,.call ⟨.value x,⟨as0⟩,ts⟩,ty,pos,after,gd⟩=some true) (hx:ev (A2 l) x=.func (.func g) fst cap) (ha:fst++Hg (A2 l) as0++cap=A)
  (hp' : ∀ v,mg=.pan v→WU P f n d Q (.pan v) (.pan v.av false) (A2 l) ds (hp h0 ids (Rc js xs)) u)
  (hk : ∀ a,mg=.ok a → ∀ v h',S a v h'→WO P f n d Q k all ((rest a).bind F) r (Gs (A2 l) dst v) ds h' u) :
  WO P f n d Q k all ((mg.bind rest).bind F) (⟨dst,.call ⟨.value x,⟨as0⟩,ts⟩,ty,pos,after,gd⟩::r) (A2 l) ds (hp h0 ids xs) u:=by
 rw [X3 hI hl hz ‹P1 N js=true›,e2] at hc
 refine Afx (R.bind_assoc _ _ _) (Oy ht hw fun hb K U hK hU=>?_)
 simp only [J2,hx]
 rw [ha]
 have hmb:mg≠.bad:=fun q=>by rw [q] at hb; exact Q.bad hb
 refine(hc hmb).mono fun r' h' hr=>?_
 cases hm:mg with
 | bad=>exact absurd hm hmb
 | ok a=>
  rw [hm] at hr hb hK
  obtain⟨v,rfl,hS⟩:=hr
  exact hK _ _ _ _ (hk a hm v h' hS)
 | pan v=>
  rw [hm] at hr hb hU
  obtain⟨rfl,rfl⟩:=hr
  exact hU _ _ _ _ _ (hp' v hm hb)
theorem Ap {ops:List Oper}{t:Nat}{v:AV}{h:Ae}(hr:WO P f n d Q k all m ops (A2 ((t,v)::l)) ds h u):WO P f n d Q k all m ops (Gs (A2 l) (some t) v) ds h u:=by rw [Ia]; exact hr
theorem Qa {α:Type}{pre:List (List Nat)}{plan:Hl}{pend:Rg}{i:Nat}{dst:Option Tmp}{x:Operand}{as0:List Operand}{ts:Array TypeId}{g:FuncId}{fst cap A:List AV}{gd:Option (Nat×Bool)}{mg:R α}{S:α→AV→Ae→Prop}{rest:α→R γ}{zs:List (Option AO)}(js:List Nat)(hI:Ids h0 ids N)(hl:xs.length=N)(hk:P1 N js=true)
  (hc:mg≠.bad→Bh P g A (hp (hp h0 ids (Rc js xs)) (Vm ids js) zs) (Ce S (hp h0 ids (Rc js xs)) mg)) (hz:js.length=zs.length) (e2:Q3 js zs xs=xs) (ho:all[i]? = some ⟨dst,.call ⟨.value x,⟨as0⟩,ts⟩,ty,pos,after,gd⟩)
  (ht:G7 n dst=true) (hw:Fh all (A2 l) ⟨dst,.call ⟨.value x,⟨as0⟩,ts⟩,ty,pos,after,gd⟩=some true) (hx:ev (A2 l) x=.func (.func g) fst cap) (ha:fst++Hg (A2 l) as0++cap=A)
  (hp' : ∀ v,mg=.pan v → ∀ fr,(∀ t,(all.any fun o=>o.dst==some t)=false→fr t=A2 l t)→WU P f n d Q (.pan v) (.pan v.av false) fr ds (hp h0 ids (Rc js xs)) u)
  (hk : ∀ a,mg=.ok a → ∀ v h',S a v h'→Mh P all pre i h' pend∧WP P f n d Q k all pre ((rest a).bind F) plan pend (Gs (A2 l) dst v) ds h' u) :
  WP P f n d Q k all pre ((mg.bind rest).bind F) ((true,i)::plan) pend (A2 l) ds (hp h0 ids xs) u:=by
 rw [X3 hI hl hz ‹P1 N js=true›,e2] at hc
 refine Af1 (R.bind_assoc _ _ _) (Zz ho ht hw fun hb K U hK hU=>?_)
 simp only [J2,hx]
 rw [ha]
 have hmb:mg≠.bad:=fun q=>by rw [q] at hb; exact Q.bad hb
 refine(hc hmb).mono fun r' h' hr=>?_
 cases hm:mg with
 | bad=>exact absurd hm hmb
 | ok a=>
  rw [hm] at hr hb hK
  obtain⟨v,rfl,hS⟩:=hr
  obtain⟨k1,k2⟩:=hk a hm v h' hS
  exact hK _ _ _ _ k1 k2
 | pan v=>
  rw [hm] at hr hb hU
  obtain⟨rfl,rfl⟩:=hr
  exact hU _ _ _ _ _ (fun fr' hf=>hp' v hm fr' hf hb)
theorem Rs {pre:List (List Nat)}{plan:Hl}{pend:Rg}{i:Nat}{fr:Nat→AV}(js:List Nat){xs zs:List (Option AO)}(ys:List (Option AO))(hI:Ids h0 ids N)(hl:xs.length=N)(hk:P1 N js=true)(hz:js.length=zs.length)(e:Q3 js zs xs=ys)
  (hr:Mh P all pre i (hp h0 ids ys) pend∧WP P f n d Q k all pre m plan pend fr ds (hp h0 ids ys) u) :
  Mh P all pre i (hp (hp h0 ids (Rc js xs)) (Vm ids js) zs) pend∧WP P f n d Q k all pre m plan pend fr ds (hp (hp h0 ids (Rc js xs)) (Vm ids js) zs) u:=by
 subst e
 rw [X3 hI hl hz hk]; exact hr
theorem R0 {pre:List (List Nat)}{plan:Hl}{pend:Rg}{t:Nat}{v:AV}{h:Ae}(hr:WP P f n d Q k all pre m plan pend (A2 ((t,v)::l)) ds h u):WP P f n d Q k all pre m plan pend (Gs (A2 l) (some t) v) ds h u:=by rw [Ia]; exact hr
end
theorem Acn {P:Program}[GW P]{f:FuncId}{n:Nat}{α:Type}{e:α→AV}{hdl:PV→R α}{h0:Ae}{ids:List Nat}{N:Nat}{xs:List (Option AO)}{l:List (Nat×AV)}{k:List Item}{u:AU}{fn:Func}{a:α}{vs:List AV}(hf:P.funcs[f]? = some fn)(hI:Ids h0 ids N)
  (hr:Lt P (hp h0 ids xs) (A2 l) fn.results.toList=some vs) (hz:Fz (hp h0 ids xs) h0 (Ku vs) (e a)) :
  WR P f n false (Ot e h0 hdl) (.ok a) (.code .ret::k) (A2 l) [] (hp h0 ids xs) u:=fun _=>
 Yf (Uc hf hr (hI.sub xs) hz rfl ⟨rfl,rfl⟩)
end Go.Am
namespace Go.Am
open Go
set_option linter.unusedSimpArgs false
set_option linter.unusedVariables false
set_option linter.unusedSectionVars false
def cut {α:Type}(l:List α)(a b:Int):List α:=(l.drop a.toNat).take (b.toNat - a.toNat)
section
variable {P:Program} [GW P] {h:Ae} {t et:TypeId} {a b st:Nat} {z:List AV} {E:TI} {s:List UInt8} {k k':IntKind} {lo hi:Int} {α:Type} {e:α→List AV} {L:List α}
theorem Afo {n:Nat}(h1:0≤lo)(h2:lo≤(n:Int))(d:Nat):H6 (some (.int k lo)) d n=some lo.toNat:=by simp only [H6]; rw [if_pos ⟨h1,h2⟩]
theorem Agz (hT:ti P t=some ⟨.str,a,b,z⟩)(hc:0≤lo∧lo≤hi∧hi≤(s.length:Int)):Nv P h t (.str s) (some (.int k lo)) (some (.int k' hi)) none=some (.str (cut s lo hi)):=by
 obtain⟨h1,h2,h3⟩:=hc
 simp only [Nv,hT]
 rw [Afo (by omega) h3]
 simp only
 rw [Afo h1 (by omega)]
 rfl
theorem Aeo (hT:ti P t=some ⟨.str,a,b,z⟩)(hc:0≤lo∧lo≤(s.length:Int)):Nv P h t (.str s) (some (.int k lo)) none none=some (.str (s.drop lo.toNat)):=by
 simp only [Nv,hT,H6]
 rw [if_pos hc]
 simp only [Option.some.injEq,AV.str.injEq]
 rw [List.take_of_length_le (by simp)]
theorem Ae9 (hT:ti P t=some ⟨.str,a,b,z⟩)(hc:0≤hi∧hi≤(s.length:Int)):Nv P h t (.str s) none (some (.int k hi)) none=some (.str (s.take hi.toNat)):=by
 simp only [Nv,hT]
 rw [Afo hc.1 hc.2]
 simp only [H6,List.drop_zero,Nat.sub_zero]
theorem Lw (hT:ti P t=some ⟨.sl et,a,b,z⟩)(hE:ti P et=some E)(hs:st=E.size)(hc:0≤lo∧lo≤(L.length:Int)):Nv P h t (.sl st (L.map e)) (some (.int k lo)) none none=some (.sl st ((L.drop lo.toNat).map e)):=by
 simp only [Nv,hT,hE,H6]
 rw [if_pos hs]
 simp only [List.length_map]
 rw [if_pos hc]
 simp only [Option.some.injEq,AV.sl.injEq,true_and]
 rw [List.take_of_length_le (by simp),List.map_drop]
theorem Rq {m o g r c:Nat}{i:Int}(j:Nat)(hT:ti P t=some ⟨.arr m et,a,b,z⟩)(hE:ti P et=some E)(hi:i=(j:Int))(hj:Nat.blt j m=true):I7 P h t (.ptr o g r c) (.int k i)=some (.ptr o g r (c+j * E.size)):=by
 subst hi
 have:j<m:=by simpa using hj
 simp only [I7,hT,hE]
 rw [if_pos ⟨by omega,by omega⟩,Int.toNat_natCast]
end
section
variable {P:Program} [GW P] {f:FuncId} {n:Nat} {d:FK} {β γ:Type} {Q:Spec β} {fr:Nat→AV} {ds:List AD} {h:Ae} {u:AU} {k:List Item} {F:γ→R β} {all:List Oper}
theorem T0 {p:Prop}[Decidable p]{A B:R γ}{ops:List Oper}(ht:p→WO P f n d Q k all (A.bind F) ops fr ds h u)(hf:¬ p→WO P f n d Q k all (B.bind F) ops fr ds h u):WO P f n d Q k all ((if p then A else B).bind F) ops fr ds h u:=by
 have e:(if p then A else B).bind F=if p then A.bind F else B.bind F:=by split <;> rfl
 rw [e]; exact Al4 ht hf
theorem Akr {p:Prop}[Decidable p]{A:R γ}{todo:List Item}(hk:p→WR P f n d Q (A.bind F) todo fr ds h u):WR P f n d Q ((if p then A else .bad).bind F) todo fr ds h u:=by
 intro hb
 by_cases hp:p
 ·simp only [if_pos hp] at hb ⊢; exact hk hp hb
 ·simp only [if_neg hp] at hb; exact absurd hb Q.bad
theorem Al9 {ops:List Oper}:WO P f n d Q k all ((R.bad:R γ).bind F) ops fr ds h u:=fun hb=>absurd hb Q.bad
end
def Afs (v:AV)(b:Bool):Prop:=match b with
 | false=>v=.nili
 | true => ∃ t x,v=.iface t x
theorem Ajc {P:Program}[GW P]{t:TypeId}{v:AV}{b:Bool}{s by':Nat}{z:List AV}(hT:ti P t=some ⟨.ifc,s,by',z⟩)(hv:Afs v b):M7 P .neq t v .nili=some (.bool b):=by
 cases b with
 | false=>obtain rfl:v=.nili:=hv; exact Aao hT
 | true=>obtain⟨t',x,rfl⟩ : ∃ t x,v=.iface t x:=hv; exact Y3 hT
theorem Ahv {P:Program}[GW P]{o:BinOp}{t:TypeId}{x:Operand}{c:Value}{v:AV}{b:Bool}(ho:o=.eql∨o=.neq)(hv:Afs v b):Kv P o t x (.const c) v .nili=true:=by
 cases b with
 | false=>obtain rfl:v=.nili:=hv; rcases ho with rfl | rfl <;> simp [Kv]
 | true=>obtain⟨t',x,rfl⟩ : ∃ t x,v=.iface t x:=hv; rcases ho with rfl | rfl <;> rfl
section
variable {P:Program} [GW P] [GW P]
theorem Qj.mk {g : FuncId} {gf : Func} {gc : Code} (h1 : P.funcs[g]? = some gf) (h2 : gf.body = some gc) (h3 : gf.name ≠ "runtime.NumGoroutine") : Qj P g := ⟨gf, gc, h1, h2, h3⟩
def Amf (w:World)(v:AV)(mu:Mu)(h:Ae):Ending→World→Prop:=fun e w'=>Go.RowKit.Below w.heap.size w w' ∧ ∃ c,e=.returned c∧RV h mu w' v c
theorem Ac7 {α:Type}{g:FuncId}{A:List AV}{m:R α}{e:α→AV}(hb:Qj P g)(hm : ∀ p,m≠.pan p)
  (hc : ∀ a,m=.ok a → ∀ (B:Base P) mu h w (cargs:Array Value),Sim B mu h w→N3 h mu w A cargs.toList→Calls P g cargs w (Amf w (e a) mu h)):CP P g A m e:=by
 intro h hne
 refine⟨hb,fun B mu w cargs s ha=>?_⟩
 cases hq:m with
 | bad=>exact absurd hq hne
 | pan p=>exact absurd hq (hm p)
 | ok a=>
  refine(hc a hq B mu h w cargs s ha).mono ?_
  rintro en w' ⟨k,c,rfl,hv⟩
  obtain⟨k1,k2⟩:=Below.ext s k
  exact⟨.ret (e a),h,mu,⟨rfl,rfl⟩,k1,k2,hv⟩
theorem Als {α:Type}{g:FuncId}{A:List AV}{m:R α}{S:α→AV→Ae→Prop}{h:Ae}(hb:Qj P g)(hm : ∀ p,m≠.pan p)
  (hc : ∀ a,m=.ok a → ∀ (B:Base P) mu w (cargs:Array Value),Sim B mu h w→N3 h mu w A cargs.toList→Calls P g cargs w fun en w'=>Go.RowKit.Below w.heap.size w w' ∧ ∃ v c,en=.returned c∧S a v h∧RV h mu w' v c):m≠.bad→Bh P g A h (Ce S h m):=by
 intro hne
 refine⟨hb,fun B mu w cargs s ha=>?_⟩
 cases hq:m with
 | bad=>exact absurd hq hne
 | pan p=>exact absurd hq (hm p)
 | ok a=>
  refine(hc a hq B mu w cargs s ha).mono ?_
  rintro en w' ⟨k,v,c,rfl,hS,hv⟩
  obtain⟨k1,k2⟩:=Below.ext s k
  exact⟨.ret v,h,mu,⟨v,rfl,hS⟩,k1,k2,hv⟩
theorem Afd {h:Ae}{mu:Mu}{w:World}{a:AV}{cargs:Array Value}(k:N3 h mu w [a] cargs.toList) : ∃ c,cargs = #[c]∧RV h mu w a c:=by
 obtain⟨l⟩:=cargs
 match l,k.1 with
 | [c],_=>exact⟨c,rfl,by simpa using k.2 0 (by simp)⟩
theorem Aes {h:Ae}{mu:Mu}{w:World}{a b:AV}{cargs:Array Value}(k:N3 h mu w [a,b] cargs.toList) : ∃ c d,cargs = #[c,d]∧RV h mu w a c∧RV h mu w b d:=by
 obtain⟨l⟩:=cargs
 match l,k.1 with
 | [c,d],_=>exact⟨c,d,rfl,by simpa using k.2 0 (by simp),by simpa using k.2 1 (by simp)⟩
theorem Zp {h:Ae}{mu:Mu}{w:World}{s:List UInt8}{c:Value}(k:RV h mu w (.str s) c):c=.string ⟨s.toArray⟩:=by cases k; rfl
theorem Agl {h:Ae}{mu:Mu}{w:World}{t:IntKind}{n:Int}{c:Value}(k:RV h mu w (.int t n) c):c=.int t n:=by cases k; rfl
theorem Al0 {h:Ae}{mu:Mu}{w:World}{st:Nat}{c:Value}(k:RV h mu w (.sl st []) c) : ∃ a cap,c=.slice a 0 cap:=by
 cases k with
 | sl0 _ a cap=>exact⟨a,cap,rfl⟩
 | sl _ _ b off cap=>exact⟨_,cap,rfl⟩
theorem Alh {h:Ae}{mu:Mu}{w:World}{l:List Av}{c:Value}(k:RV h mu w (.sl 1 (l.map rS)) c):l=[] ∨ ∃ bk o cap,c=.slice (some ⟨bk,o,none⟩) l.length cap∧bk<w.heap.size∧l.length≤Ek∧l.length≤cap ∧ ∀ j x,l[j]? = some x→w.cell? ⟨bk,o+j,none⟩=some (.string ⟨x.toArray⟩):=by
 generalize hr:l.map rS=rows at k
 cases k with
 | sl0 _ a cap=>exact .inl (List.map_eq_nil_iff.1 hr)
 | sl _ _ b off cap vs hcap hlim h1 h2 h5 h3 h4=>
  subst hr
  refine .inr ⟨b,off,cap,by rw [List.length_map],h4,by simpa using hlim,by simpa using hcap,fun j x hx=>?_⟩
  have hj:j<l.length:=A7 hx
  have:=h1 j 0 (by simpa using hj) (by omega)
  have h2':=h2 j 0 (by simpa using hj) (by omega)
  rw [Nat.mul_one,Nat.add_zero] at this
  rw [this]
  have e:cell (l.map rS) j 0=.str x:=by simp [cell,hx,rS]
  rw [e] at h2'
  rw [Zp h2']
end
end Go.Am
namespace Go.Am
open Go
set_option linter.unusedSimpArgs false
set_option linter.unusedVariables false
set_option linter.unusedSectionVars false
inductive HM (h h2:Ae):List (Option AO)→List (Option AO)→Prop
 | nil:HM h h2 [] []
 | keep {x:Option AO} {xs ys:List (Option AO)} (r:HM h h2 xs ys):HM h h2 (x::xs) (x::ys)
 | drop {x:Option AO} {xs ys:List (Option AO)} (r:HM h h2 xs ys):HM h h2 (x::xs) (none::ys)
 | own {α:Type} {e:α→List AV} {L:List α} {v:AV} {g st i:Nat} {y:α} {row:List AV} {xs ys:List (Option AO)} (hr : ∀ x,Ee st (e x)) (hz:LF h h2 row (e y)) (r:HM h h2 xs ys) :
   HM h h2 (Ai v g st ((L.map e).set i row)::xs) (Ai v g st ((L.set i y).map e)::ys)
theorem HM.get {h h2:Ae}{xs ys:List (Option AO)}(k:HM h h2 xs ys):xs.length=ys.length ∧ ∀ (j:Nat) (y:AO),ys[j]? = some (some y) → ∃ x,xs[j]? = some (some x)∧AFz h h2 x y:=by
 induction k with
 | nil=>exact⟨rfl,fun j y e=>by simp at e⟩
 | keep r ih=>
  refine⟨by simp [ih.1],fun j y e=>?_⟩
  cases j with
  | zero=>simp only [List.getElem?_cons_zero,Option.some.injEq] at e; subst e; exact⟨y,by simp,.same _⟩
  | succ j=>simpa using ih.2 j y (by simpa using e)
 | drop r ih=>
  refine⟨by simp [ih.1],fun j y e=>?_⟩
  cases j with
  | zero=>simp at e
  | succ j=>simpa using ih.2 j y (by simpa using e)
 | @own α e L v g st i y row xs ys hr hz r ih=>
  refine⟨by simp [ih.1],fun j z hz'=>?_⟩
  cases j with
  | succ j=>simpa using ih.2 j z (by simpa using hz')
  | zero=>
   simp only [List.getElem?_cons_zero,Option.some.injEq] at hz' ⊢
   have key:AFz h h2 (.rows g st ((L.map e).set i row)) (.rows g st ((L.set i y).map e)):=by
    refine .rows g st _ _ (by simp) (fun q hq=>?_) fun a b ha hb=>?_
    ·obtain⟨w,_,rfl⟩:=List.mem_map.1 hq
     exact hr w
    ·rw [List.map_set]
     by_cases hia:i=a
     ·subst hia
      have hlt:i<(L.map e).length:=by simpa using ha
      simp only [cell]
      have e1:((L.map e).set i row).getD i []=row:=by rw [List.getD_eq_getElem?_getD,List.getElem?_set_self hlt]; rfl
      have e2:((L.map e).set i (e y)).getD i []=e y:=by rw [List.getD_eq_getElem?_getD,List.getElem?_set_self hlt]; rfl
      rw [e1,e2]
      exact hz.all.2 b (by rw [hz.all.1,(hr y).1]; exact hb)
     ·simp only [cell]
      have e1:((L.map e).set i row).getD a []=(L.map e).getD a []:=by simp [List.getD,List.getElem?_set_ne hia]
      have e2:((L.map e).set i (e y)).getD a []=(L.map e).getD a []:=by simp [List.getD,List.getElem?_set_ne hia]
      rw [e1,e2]
      exact .same _
   unfold Ai at hz' ⊢
   split at hz'
   ·cases hz'
   ·rename_i hv
    cases hz'
    exact⟨_,rfl,key⟩
theorem HM.hfz {h0:Ae}{ids:List Nat}{N:Nat}{xs ys:List (Option AO)}(hI:Ids h0 ids N)(hl:xs.length=N)(k:HM (hp h0 ids xs) (hp h0 ids ys) xs ys):HFz (hp h0 ids xs) (hp h0 ids ys):=by
 intro o y e
 obtain⟨k1,k2⟩:=k.get
 by_cases ho:o ∈ ids
 ·obtain⟨j,hj,rfl⟩:=List.mem_iff_getElem.1 ho
  have ej:ids[j]=ix ids j:=by simp [ix,List.getD,hj]
  rw [ej] at e ⊢
  have hjl:j<ys.length:=by rw [← k1,hl,← hI.len]; exact hj
  have hy:=hI.at (xs:=ys) (j:=j) (x:=ys[j]) (by rw [← k1,hl]) (List.getElem?_eq_getElem hjl)
  rw [hy] at e
  obtain⟨x,hx,hz⟩:=k2 j y (by rw [List.getElem?_eq_getElem hjl,e])
  exact⟨x,hI.at hl hx,hz⟩
 ·rw [Ql ho] at e
  exact⟨y,by rw [Ql ho]; exact e,.same _⟩
end Go.Am
namespace Go.Am
open Go
set_option linter.unusedSimpArgs false
set_option linter.unusedVariables false
set_option linter.unusedSectionVars false
section
variable {α:Type} {n:Nat} {e:α→List AV} {E:α→AV} {v:Vector α n} {i:Nat}
theorem Ee.all {s:Nat}{r:List AV}(h:Ee s r):r.all AV.flat=true:=List.all_eq_true.2 h.2
end
section
variable {P:Program} [GW P] {h:Ae} {t et:TypeId} {a b:Nat} {z:List AV} {E:TI} {k:IntKind}
theorem toNat_lt {i:Int}{m:Nat}(h:0≤i∧i<(m:Int)):i.toNat<m:=by omega
end
theorem V7 {h h2:Ae} : ∀ l:List AV,LF h h2 l l
 | []=>.nil
 | a::l=>.cons (.same a) (V7 l)
def R.np {α:Type}:R α→R α
 | .pan _=>.bad
 | m=>m
@[simp] theorem R.np_ok {α:Type}(a:α):(R.ok a).np=.ok a:=rfl
end Go.Am
namespace Go.Am
open Go
set_option linter.unusedSimpArgs false
set_option linter.unusedVariables false
set_option linter.unusedSectionVars false
end Go.Am
namespace Go.Am
open Go
set_option linter.unusedSimpArgs false
set_option linter.unusedVariables false
set_option linter.unusedSectionVars false
section
variable {P:Program} [GW P] {f:FuncId} {n:Nat} {d:FK} {fr:Nat→AV} {ds:List AD} {h:Ae} {u:AU} {Q:QT} {k:List Item}
theorem Sim.take {B:Base P}{mu:Mu}{w:World}{b:Nat}{x:Option (List Deferred)}(s:Sim B mu h w)(hb:w.heap[b]? = some (.deferred x))(hm:¬ D3 h mu b)(hn:B.n≤b){n0:Nat}(hn0:n0≤b) :
  Sim B mu h { w with heap:=w.heap.setIfInBounds b (.deferred none) }∧Aa3 n0 h mu w h mu { w with heap:=w.heap.setIfInBounds b (.deferred none) }:=by
 have hlt:b<w.heap.size:=by
  rcases Nat.lt_or_ge b w.heap.size with hh | hh
  ·exact hh
  ·rw [Array.getElem?_eq_none hh] at hb; cases hb
 have hne : ∀ k,k≠b→(w.heap.setIfInBounds b (.deferred none))[k]? = w.heap[k]? := fun k hk=>Array.getElem?_setIfInBounds_ne (Ne.symm hk)
 have hself:(w.heap.setIfInBounds b (.deferred none))[b]? = some (.deferred none):=by simp [hlt]
 have ext:Aa3 n0 h mu w h mu { w with heap:=w.heap.setIfInBounds b (.deferred none) }:=
  ⟨rfl,rfl,rfl,by simp,fun k hk hkm=>⟨by
   by_cases hq:k=b
   ·subst hq; exact .inr ⟨hn0,_,_,hb,hself⟩
   ·exact .inl (hne k hq),hkm⟩,fun _ _ _ h=>h⟩
 have hcell : ∀ a:Addr,({ w with heap:=w.heap.setIfInBounds b (.deferred none) }:World).cell? a=w.cell? a:=fun a=>by
  by_cases hq:a.block=b
  ·unfold World.cell?
   show(match (w.heap.setIfInBounds b (.deferred none))[a.block]? with | some (.cells cells _ _)=>_ | _=>_)=_
   rw [hq,hself,hb]
  ·exact cell?_of_heap (hne _ hq)
 have hnb : ∀ {o x l},h o=some x→mu o x.gen=some l→l.b≠b:=fun h1 h2 hq=>hm ⟨_,_,_,h1,h2,hq⟩
 refine⟨⟨by simpa using s.base,fun o g l hl=>?_,s.fin,s.finh,fun o g st rs hx=>?_,fun o g es hx=>?_,s.inj,GW.step s.glob fun k hk=>hne k (by omega),fun o g x hx=>?_⟩,ext⟩
 ·obtain⟨h1,h2,h3⟩:=s.muOk o g l hl
  refine⟨h1,by simpa using h2,fun hc=>?_⟩
  obtain⟨cells,e,f,k1,k2,k3⟩:=h3 hc
  have:l.b≠b:=fun hq=>by rw [hq,hb] at k1; cases k1
  exact⟨cells,e,f,(hne _ this).trans k1,k2,k3⟩
 ·obtain⟨l,h1,h2,h3,h4,h5,h6⟩:=s.rows o g st rs hx
  refine⟨l,h1,h2,h3,h4,h5,fun i j hi hj=>?_⟩
  obtain⟨c,hc1,hc2⟩:=h6 i j hi hj
  exact⟨c,(hcell _).trans hc1,hc2.extG ext⟩
 ·obtain⟨l,h1,h2,ens,clock,h3,h4,h5⟩:=s.maps o g es hx
  exact⟨l,h1,h2,ens,clock,⟨(hne _ (hnb hx h1)).trans h3.1,h3.2⟩,h4,fun i hi=>⟨(h5 i hi).1.extG ext,(h5 i hi).2.extG ext⟩⟩
 ·obtain⟨l,h1,h2,h3⟩:=s.blks o g x hx
  exact⟨l,h1,h2,(hne _ (hnb hx h1)).trans h3⟩
theorem N3.extG {n:Nat}{h h':Ae}{mu mu':Mu}{w w':World}(e:Aa3 n h mu w h' mu' w'){l:List AV}{cs:List Value}(k:N3 h mu w l cs):N3 h' mu' w' l cs:=⟨k.1,fun i hi=>(k.2 i hi).extG e⟩
theorem Pq.extG {n:Nat}{h h':Ae}{mu mu':Mu}{w w':World}(e:Aa3 n h mu w h' mu' w'){u:AU}{m:FrameMode}(k:Pq h mu w u m):Pq h' mu' w' u m:=by
 unfold Pq at k ⊢
 split at k
 ·trivial
 ·exact⟨k.1,k.2.1,k.2.2.extG e⟩
 ·exact k.elim
structure LpOk (f n:Nat)(params:Array Tmp)(assign body:Code)(r:Loop):Prop where
 ready:r.state=.ready
 pend:r.pending=none
 fn:r.fn=f
 size:r.tmps.size=n
 params:r.params=params
 assign:r.assign=assign
 body:r.body=body
end
end Go.Am
namespace Go.Am
open Go
set_option linter.unusedSimpArgs false
set_option linter.unusedVariables false
set_option linter.unusedSectionVars false
end Go.Am
namespace Go.Am
@[reducible] def Yz {α β γ δ ε ζ η θ ι ω:Type}(f:α→β→γ→δ→ε→ζ→η→θ→ι→ω):α×β×γ×δ×ε×ζ×η×θ×ι→ω | (x0,x1,x2,x3,x4,x5,x6,x7,x8)=>f x0 x1 x2 x3 x4 x5 x6 x7 x8
@[simp] theorem Ano {α β γ δ ε ζ η θ ι ω:Type}(f:α→β→γ→δ→ε→ζ→η→θ→ι→ω)(x0:α)(x1:β)(x2:γ)(x3:δ)(x4:ε)(x5:ζ)(x6:η)(x7:θ)(x8:ι):Yz f (x0,x1,x2,x3,x4,x5,x6,x7,x8)=f x0 x1 x2 x3 x4 x5 x6 x7 x8:=rfl
end Go.Am
namespace Go.Am
open Go
set_option linter.unusedVariables false
set_option linter.unusedSectionVars false
theorem Aml {P:Program}[GW P]{f:FuncId}{n:Nat}{d:FK}{α β γ:Type}{Q:Spec β}{k:List Item}{all ops:List Oper}{fr:Nat→AV}{ds:List AD}{h:Ae}{u:AU}{F:γ→R β}{m:R α}{rest:α→R γ}
  (hk:(∀ v,m≠.pan v)→WO P f n d Q k all ((m.bind rest).bind F) ops fr ds h u):WO P f n d Q k all ((m.np.bind rest).bind F) ops fr ds h u:=by
 cases m with
 | ok a=>exact hk (fun v hv=>by cases hv)
 | pan v=>exact fun hb=>absurd hb Q.bad
 | bad=>exact fun hb=>absurd hb Q.bad
end Go.Am
namespace Go.Am
open Go
set_option linter.unusedVariables false
set_option linter.unusedSectionVars false
theorem Alg {P:Program}{W:World}{name:String}{k:IntKind}{zs:List Int}{g:Nat}{t e:TypeId}{n:Nat}(hg:P.globalNamed name=some g)(hty:(P.globals[g]?).map (·.type)=some t)(ht:P.underlying t=some (.array n e))(he:P.underlying e=some (.int k))(hce:P.cellsOf e=1)(hct:P.cellsOf t=n)
  (h:Lib.VarReads P W name (Lib.tabData k zs)):Lib.TabIs P W name k zs:=by
 obtain⟨g',t',cs,fuel,p,hg',ht',hvar,hd⟩:=h
 obtain rfl:=Option.some.inj (hg.symm.trans hg')
 obtain rfl:=Option.some.inj (hty.symm.trans ht')
 unfold Lib.TabIs
 rw [hvar,← Lib.cells_of_tab ht he hce hct hd]
theorem Abc {P:Program}{W:World}{name u:String}{d:DataW Unit}{g:Nat}{t:TypeId}{ms:Array _}(hg:P.globalNamed name=some g)(hty:(P.globals[g]?).map (·.type)=some t)(ht:P.underlying t=some (.interface ms))
  (h:Lib.VarReads P W name (.iface u d)) : ∃ tp p,W.var? P name=some #[.iface tp p]:=by
 obtain⟨g',t',cs,fuel,p,hg',ht',hvar,hd⟩:=h
 obtain rfl:=Option.some.inj (hg.symm.trans hg')
 obtain rfl:=Option.some.inj (hty.symm.trans ht')
 cases fuel with
 | zero=>simp [DataW.trod] at hd
 | succ fuel=>
  obtain⟨cs⟩:=cs
  cases cs with
  | nil=>simp [DataW.trod,ht] at hd
  | cons v rest=>
   cases rest with
   | cons a b=>simp [DataW.trod,ht] at hd
   | nil=>
    cases v with
    | iface tp q=>exact⟨tp,q,hvar⟩
    | _=>simp [DataW.trod,ht] at hd
theorem Alz {P:Program}{W:World}{name:String}{g:Nat}{d:DataW Unit}(hg:P.globalNamed name=some g)(h:Lib.VarReads P W name d):g<W.heap.size:=by
 obtain⟨g',t',cs,fuel,p,hg',ht',hvar,hd⟩:=h
 obtain rfl:=Option.some.inj (hg.symm.trans hg')
 unfold World.var? at hvar
 rw [hg] at hvar
 rcases Nat.lt_or_ge g W.heap.size with h | h
 ·exact h
 ·simp [Array.getElem?_eq_none h] at hvar
theorem Xj {H:Type}{enc:TypeId×Value→H}{C:Checked}{os:Os}{f:FuncId}{fn:Func}{s:OpenSpec}{conds:List PathCond}{apart:Bool}{laid:List (String×DataW Unit)}(modest:Bool)(w0:World)(args:Array Value)(hos:w0.os=os)
  (hsh:(w0.forCall (fun _ _=>0) ⟨#[],args,[]⟩).Shaped C.prog)
  (hok:Input.okWideB C.prog (w0.forCall (fun _ _=>0) ⟨#[],args,[]⟩) f ⟨#[],args,[]⟩=true)
  (hrow:s.preRow enc C.prog fn conds apart laid (w0.forCall (fun _ _=>0) ⟨#[],args,[]⟩).memory args) :
  ∃ (w:World) (tape:Tape) (i:Input),w.os=os∧(w.forCall tape i).Shaped C.prog∧i.vars=[]∧Input.okWide C.prog (w.forCall tape i) .any w.heap.size f i ∧
   s.preRow enc C.prog fn conds apart laid (w.forCall tape i).memory i.args∧({ modest:=modest }:Assume).holds C.prog (lone (Frame.enter C.prog f i.args .normal) [] (w.forCall tape i)):=
 ⟨w0,fun _ _=>0,⟨#[],args,[]⟩,hos,hsh,(Input.okWide_of_okWideB (base:=0) hok).1,(Input.okWide_of_okWideB hok).2,hrow,by
  simp only [Assume.holds]
  exact⟨by simp,by simp,fun _=>Modest.zero,by simp,by simp⟩⟩
end Go.Am
namespace Go.Am
open Go
set_option linter.unusedVariables false
set_option linter.unusedSectionVars false
section
variable {P:Program} [GW P] {h:Ae}
theorem Amm {t:TypeId}{T:TI}{b c:Nat}{row:List AV}{v:AV}(hr:GW.row P b=some row)(hT:ti P t=some T)(hv:Js row c T.size T.k.agg=some v):Np P h t (.gptr ⟨b,c,none⟩)=some v:=by simp only [Np,hT,hr,hv]
theorem Ny {t kt et:TypeId}{a b:Nat}{z:List AV}{K:TI}{ET:TI}{es:List (Av×AV)}{s c:Av}{q:Av×AV}(hT:ti P t=some ⟨.map kt et,a,b,z⟩)(hK:ti P kt=some K)(hk:K.k=.str)(hE:ti P et=some ET)(hs:(s==c)=true)(hf:es.find? (fun p=>c==p.1)=some q) :
  Pb P h t (.mapc es) (.str s) true=some (.tup [q.2,.bool true]):=by
 obtain rfl:=eq_of_beq hs
 obtain⟨r,h1,h2⟩:=Ui (k:=s) es 0
 rw [hf] at h2
 obtain⟨j,v,rfl⟩ : ∃ j v,r=some (j,v):=by cases r with | none=>simp at h2 | some q=>exact⟨q.1,q.2,rfl⟩
 obtain rfl:v=q.2:=by simpa using h2
 simp only [Pb,hT,hK,hE,Xz,hk,U1,if_true,h1]
theorem Ai9 {t kt et:TypeId}{a b:Nat}{z:List AV}{K:TI}{ET:TI}{es:List (Av×AV)}{s:Av}{v:AV}(hT:ti P t=some ⟨.map kt et,a,b,z⟩)(hK:ti P kt=some K)(hk:K.k=.str)(hE:ti P et=some ET)(hz:Js ET.z 0 ET.size ET.k.agg=some v)(hf:es.find? (fun p=>s==p.1)=none) :
  Pb P h t (.mapc es) (.str s) true=some (.tup [v,.bool false]):=by
 obtain⟨r,h1,h2⟩:=Ui (k:=s) es 0
 rw [hf] at h2
 obtain rfl:r=none:=by simpa using h2
 simp only [Pb,hT,hK,hE,Xz,hk,U1,if_true,h1,hz]
theorem Qp {es:List (Av×AV)}{s c:Av}{v:AV}(h:(s==c)=false)(r:es.find? (fun p=>s==p.1)=none):((c,v)::es).find? (fun p=>s==p.1)=none:=by rw [List.find?_cons]; simp only [h]; exact r
end
section
variable {P:Program} [GW P] {f:FuncId} {n:Nat} {γ:Type} {m:R γ} {u u':AU} {h0:Ae}
theorem Agx {fn : Func} {c : Code} {args : List AV} {os0 : List Nat} {K : Nat} {xs : List (Option AO)} {ysf : γ → List (Option AO)} (N : Nat) (hf : P.funcs[f]? = some fn) (hb : fn.body = some c) (hn : fn.name ≠ "runtime.NumGoroutine") (hnt : fn.ntmps = n) (hl : Nat.ble args.length n = true)
  (hI0 : Ids h0 os0 K) (hx : xs.length = K) (hy : ∀ a, (ysf a).length = K)
  (hr : ∀ ids, (∀ j, Nat.blt j K = true → ix ids j = ix os0 j) → Ids h0 ids (K + N) → WR P f n true (Afq (fun a => hp h0 ids (ysf a ++ List.replicate N none)) u') m [.code c] (A2 (Wd 0 args)) [] (hp h0 ids (xs ++ List.replicate N none)) u) :
  (∃ a, m = .ok a) → N0 P f args u (hp h0 os0 xs) (X4 (fun a => hp h0 os0 (ysf a)) u' m) := by
 intro hm
 refine Yy hf hb hn hnt (by simpa using hl) ?_
 refine Yk N os0 fun os h1 h2 h3 h4 => ?_
 have hout : ∀ o ∈ os, o ∉ os0 := fun o ho => h4 o ho
 have hI : Ids h0 (os0 ++ os) (K + N) := by
  refine ⟨List.nodup_append.2 ⟨hI0.nodup, h2, fun a ha b hb hq => hout b hb (hq ▸ ha)⟩, fun o ho => ?_, by simp [hI0.len, h1]⟩
  rcases List.mem_append.1 ho with ho | ho
  ·exact hI0.fresh o ho
  ·have := h3 o ho
   rwa [Ql (hout o ho)] at this
 have e : ∀ zs : List (Option AO), zs.length = K → hp h0 (os0 ++ os) (zs ++ List.replicate N none) = hp h0 os0 zs := fun zs hz => by
  rw [U5 (by rw [hI0.len, hz]), Rk fun o ho => hI.fresh o (List.mem_append_right _ ho)]
 have := hr (os0 ++ os) (fun j hj => by
  have hj' : j < os0.length := by rw [hI0.len]; simpa using hj
  simp [ix, List.getD, List.getElem?_append_left hj']) hI hm
 rw [e xs hx] at this
 refine Q1 (fun t => ?_) (Aip this ?_)
 ·rcases Rm args 0 t with h | ⟨_, h⟩
  ·exact .inl h
  ·exact .inr h
 ·rintro r h' u1 ⟨a, h1, h2, h3, h4⟩
  exact ⟨a, h1, h2, h3.trans (e _ (hy a)), h4⟩
end
def Jb (l:List (Av×Av×FuncId)):List (Av×AV):=l.map fun x=>(x.1,.func (.func x.2.2) [] [])
def Wq (l:List (Av×Av×FuncId)):DataW (List UInt8):=.map (l.map fun x=>(.string x.1,.held x.2.1))
def Alk (P:Program)(l:List (Av×Av×FuncId)):Bool:=l.all fun x => !x.2.1.isEmpty&&((List.range P.funcs.size).filter fun f=>(P.funcs[f]?).any (·.name.toUTF8.data.toList==x.2.1))==[x.2.2]
structure FMapAt (w:World)(m g:Nat)(es:List (Av×AV)):Prop where
 ex : ∃ (b:Nat) (ens:Array MapEntry) (clock:Nat) (es2:List (Av×AV)),w.cell? ⟨g,0,none⟩=some (.map (some b))∧b<m∧w.heap[b]? = some (.map ens clock)∧es2.Perm es∧es2.length=ens.size ∧
  ∀ i,i<es2.length→(ens.getD i default).key=.string ⟨(es2.getD i ([],.und)).1.toArray⟩ ∧ ∃ k,(es2.getD i ([],.und)).2=.func (.func k) [] []∧(ens.getD i default).val=.func (.func k) #[] #[]
 nd:(es.map (·.1)).Nodup
theorem FMapAt.keep {w w':World}{m g:Nat}{es:List (Av×AV)}(k:FMapAt w m g es)(hg:g<m)(e : ∀ b,b<m→w'.heap[b]? = w.heap[b]?):FMapAt w' m g es:=by
 obtain⟨⟨b,ens,clock,es2,h1,h2,h3,h4,h5,h6⟩,hnd⟩:=k
 exact⟨⟨b,ens,clock,es2,by rw [cell?_of_heap (w:=w) (a:=⟨g,0,none⟩) (e g hg)]; exact h1,h2,by rw [e b h2]; exact h3,h4,h5,h6⟩,hnd⟩
theorem FMapAt.rv {w:World}{m g:Nat}{es:List (Av×AV)}(k:FMapAt w m g es)(hm:m≤w.heap.size){mu:Mu}{M:Nat→Prop}(hM : ∀ b,M b→m≤b) : ∃ x,w.cell? ⟨g,0,none⟩=some x∧Rv w mu M (.mapc es) x:=by
 obtain⟨⟨b,ens,clock,es2,h1,h2,h3,h4,h5,h6⟩,hnd⟩:=k
 refine⟨_,h1,.mapc es es2 h4 hnd b ens clock h3 h5 (fun i hi=>(h6 i hi).1) (fun i hi=>?_) (fun hb=>by have:=hM b hb; omega) (by omega)⟩
 obtain⟨_,k,e1,e2⟩:=h6 i hi
 rw [e1,e2]
 exact .func _ [] [] [] [] rfl rfl (fun i hi=>by simp at hi) (fun i hi=>by simp at hi)
open Go.ChangeShapes Go.WideShapes Go.WideElems
theorem Ags {P:Program}{e:TypeId}{ps rs:Array TypeId}{va:Bool}{v c:Value}(he:P.underlying e=some (.func ps rs va))(hf:v.formed P e=true)(hc:v.cells.toList=[c]):v=c:=by
 cases v with
 | agg a=>simp [Value.formed,he] at hf
 | _=>simpa [Value.cells] using hc
theorem Ajz {P:Program}{W:World}{name:String}{d:DataW Unit}{l:List (Av×Av×FuncId)}{g:Nat}{t k e:TypeId}{ps rs:Array TypeId}{va:Bool}(h:funcsAt P W name d)(hd:d.funcsOut=Wq l)(hg:P.globalNamed name=some g)(hty:(P.globals[g]?).map (·.type)=some t)
  (ht:P.underlying t=some (.map k e)) (hk:P.underlying k=some .string) (he:P.underlying e=some (.func ps rs va)) (hok:Alk P l=true) (hnd:((Jb l).map (·.1)).Nodup):FMapAt W W.heap.size g (Jb l):=by
 obtain⟨g',t',cs,fuel,p,hg',ht',hvar,hr⟩:=h
 obtain rfl:=Option.some.inj (hg.symm.trans hg')
 obtain rfl:=Option.some.inj (hty.symm.trans ht')
 rw [hd] at hr
 rcases open_map ht hr with⟨_,hx⟩ | ⟨b,ens,clock,n,rfl,hcs,hb,_,F,hx⟩
 ·simp [Wq] at hx
 ·refine⟨?_,hnd⟩
  have hmap:Wq l=.map ((ens.toList.map (rg P k (elemAt (funcToken P) P W 0 (fun _=>true) true n e))).foldr DataW.insert []):=congrArg Prod.fst hx
  have hperm:(ens.toList.map (rg P k (elemAt (funcToken P) P W 0 (fun _=>true) true n e))).Perm (l.map fun x=>(Lit.string x.1,DataW.held x.2.1)):=by
   have h1:=sorted_perm (ens.toList.map (rg P k (elemAt (funcToken P) P W 0 (fun _=>true) true n e)))
   unfold Wq at hmap
   rw [← DataW.map.inj hmap] at h1
   exact h1.symm
  have hent : ∀ x ∈ ens.toList,∃ y ∈ l,x.key=.string ⟨y.1.toArray⟩∧x.val=.func (.func y.2.2) #[] #[]∧rg P k (elemAt (funcToken P) P W 0 (fun _=>true) true n e) x=(Lit.string y.1,DataW.held y.2.1):=by
   intro x hx
   have hm:=hperm.mem_iff.1 (List.mem_map.2 ⟨x,hx,rfl⟩)
   obtain⟨y,hy,hyx⟩:=List.mem_map.1 hm
   obtain⟨z,hz⟩:=F.reads x hx
   rw [rg_of hz] at hyx
   subst hyx
   refine⟨y,hy,?_,?_,by rw [rg_of hz]⟩
   ·have h1:=rd_key hz
    rw [keyOf_string hk] at h1
    unfold mapKey at h1
    rw [hk] at h1
    generalize x.key=kv at h1
    cases kv <;> simp at h1
    rename_i s
    obtain⟨_,h1⟩:=h1
    obtain⟨⟨sl⟩⟩:=s
    simp at h1
    rw [← h1]
   ·obtain⟨v,hv,hv2⟩:=rd_val hz
    have hyok:=List.all_eq_true.1 hok y hy
    simp only [Bool.and_eq_true,beq_iff_eq,Bool.not_eq_true'] at hyok
    obtain⟨v1,v2⟩:=v
    simp only at hv2
    unfold elemAt at hv
    split at hv
    ·cases fuel':n with
     | zero=>rw [fuel'] at hv; simp [DataW.trod] at hv
     | succ n'=>
      have hcells : ∃ v0,x.val.cells.toList=[v0]:=by
       have:=hv
       rw [fuel',DataW.trod_step] at this
       unfold DataW.trodStep at this
       rw [he] at this
       generalize x.val.cells.toList=cl at this
       match cl,this with
       | [v0],_=>exact⟨v0,rfl⟩
       | [],h=>simp at h
       | _::_::_,h=>simp at h
      obtain⟨v0,hv0⟩:=hcells
      rw [hv0] at hv
      obtain⟨y1,y2,y3⟩:=y
      simp only at hv2 hyok hv
      cases y2 with
      | nil=>simp at hyok
      | cons b0 r0=>
       rw [← hv2] at hv
       have hf:=func_of_trod he hyok.2 hv
       subst hf
       refine Ags he ?_ hv0
       assumption
    ·cases hv
  let θ:Lit×DataW (List UInt8)→Av×AV:=fun p=>match p with
   | (.string s,.held nm)=>(s,match l.find? (fun y=>y.2.1==nm) with
    | some y=>.func (.func y.2.2) [] []
    | none=>.und)
   | _=>([],.und)
  have hθ : ∀ y ∈ l,θ (Lit.string y.1,DataW.held y.2.1)=(y.1,.func (.func y.2.2) [] []):=by
   intro y hy
   show(y.1,_)=_
   cases hq:l.find? (fun z=>z.2.1==y.2.1) with
   | none=>
    rw [List.find?_eq_none] at hq
    exact absurd (by simp) (hq y hy)
   | some z=>
    have hz1:=List.mem_of_find?_eq_some hq
    have hz2:z.2.1=y.2.1:=by simpa using List.find?_some hq
    have k1:=List.all_eq_true.1 hok y hy
    have k2:=List.all_eq_true.1 hok z hz1
    simp only [Bool.and_eq_true,beq_iff_eq] at k1 k2
    rw [hz2,k1.2] at k2
    have:y.2.2=z.2.2:=by simpa using k2.2
    simp only [this]
  refine⟨b,ens,clock,ens.toList.map fun x=>θ (rg P k (elemAt (funcToken P) P W 0 (fun _=>true) true n e) x),?_,?_,hb,?_,by simp,fun i hi=>?_⟩
  ·have:=World.var?_cell hg hvar 0
   rw [Array.eq_one_of_toList hcs] at this
   simpa using this
  ·rcases Nat.lt_or_ge b W.heap.size with h | h
   ·exact h
   ·simp [Array.getElem?_eq_none h] at hb
  ·have:=hperm.map θ
   rw [List.map_map,List.map_map] at this
   refine this.trans (List.Perm.of_eq (List.map_congr_left fun y hy=>hθ y hy))
  ·have hi':i<ens.toList.length:=by simpa using hi
   have hm:ens.toList[i] ∈ ens.toList:=List.getElem_mem hi'
   obtain⟨y,hy,e1,e2,e3⟩:=hent _ hm
   have g1:ens.getD i default=ens.toList[i]:=by
    rw [← R4,Ez (List.getElem?_eq_getElem hi')]
   have g2:(ens.toList.map fun x=>θ (rg P k (elemAt (funcToken P) P W 0 (fun _=>true) true n e) x)).getD i ([],.und)=(y.1,.func (.func y.2.2) [] []):=by
    rw [Ez (x:=θ (rg P k (elemAt (funcToken P) P W 0 (fun _=>true) true n e) ens.toList[i])) (by rw [List.getElem?_map,List.getElem?_eq_getElem hi',Option.map_some]),e3,hθ y hy]
   rw [g1,g2]
   exact⟨e1,_,rfl,e2⟩
end Go.Am
namespace Go.Am
open Go
set_option linter.unusedVariables false
set_option linter.unusedSectionVars false
set_option linter.unusedSimpArgs false
abbrev AV.q (ids:List Nat)(j g:Nat):AV:=.ptr (ix ids j) g 0 0
abbrev AV.I (n:Int):AV:=.int .i64 n
abbrev Sc.I (n:Int):Sc:=.int .i64 n
section
variable (P:Program) [GW P]
def Aex:Op→Bool
 | .move _=>true
 | .assign _=>true
 | .pick _ _ _=>true
 | .build _ _=>true
 | .nilCheck _=>true
 | .binOp _ _ _ _ _=>true
 | .unOp _ _ _=>true
 | .makeInterface _ _=>true
 | .makeFunc _ _ _=>true
 | .fieldAddr _ _ _=>true
 | .field _ _ _=>true
 | .typeAssert _ _ _ _=>true
 | .extract _ _=>true
 | _=>false
def Ai8 (xs:List (Option AO))(fr:Nat→AV)(j:Nat)(op:Op):Option (AV×Option (Nat×Nat×Nat)):=
 match op with
 | .load t a=>match ev fr a with
  | .ptr o g r c=>match ti P t,xs[j]? with
   | some T,some (some (.rows g' st rs))=>match rs[r]? with
    | some row=>(Js row c T.size T.k.agg).map fun v=>(v,some (o,g,g'))
    | none=>none
   | _,_=>none
  | .cp row c=>match ti P t with
   | some T=>(Js row c T.size T.k.agg).map fun v=>(v,none)
   | none=>none
  | _=>none
 | op=>if Aex op then(Ej P fr hE op).map fun v=>(v,none) else none
def Oc (n:Nat)(all:List Oper)(xs:List (Option AO)):List Oper→List Nat→List (Nat×AV)→Option (List (Nat×AV)×List (Nat×Nat)×List (Nat×Nat))
 | [],_,l=>some (l,[],[])
 | o::ops,hs,l=>if G7 n o.dst then match Fh all (A2 l) o,o.dst with
   | some true,some t=>match Ai8 P xs (A2 l) (hs.headD 0) o.op with
    | some (v,none)=>Oc n all xs ops hs ((t,v)::l)
    | some (v,some (ob,g,g'))=>(Oc n all xs ops hs.tail ((t,v)::l)).map fun r=>(r.1,(ob,g)::r.2.1,(hs.headD 0,g')::r.2.2)
    | none=>none
   | some false,some t=>Oc n all xs ops hs ((t,.und)::l)
   | some false,none=>Oc n all xs ops hs l
   | _,_=>none
  else none
def Aeq (ops:List Oper)(ks:List Nat)(l:List (Nat×AV)):Bool:=ops.all fun o=>match o.dst with
 | none=>true
 | some t=>ks.contains t || !(l.any fun p=>Nat.beq t p.1)
end
section
variable {P:Program} [GW P] {f:FuncId} {n:Nat} {d:FK} {β γ:Type} {Q:Spec β} {m:R β} {ds:List AD} {h:Ae} {u:AU} {k:List Item} {l:List (Nat×AV)} {F:γ→R β}
variable {all:List Oper} {h0:Ae} {ids:List Nat} {xs:List (Option AO)} {N:Nat}
theorem Z2 {fr:Nat→AV}{j:Nat}{op:Op}{v:AV}{q:Option (Nat×Nat×Nat)}(hI:Ids h0 ids N)(hl:xs.length=N)(hx:Ai8 P xs fr j op=some (v,q))(hq : ∀ o g g',q=some (o,g,g')→o=ix ids j∧g=g'):Ej P fr (hp h0 ids xs) op=some v:=by
 unfold Ai8 at hx
 split at hx
 ·rename_i t a
  show Np P _ t (ev fr a)=_
  split at hx
  ·rename_i o g r c ha
   rw [ha]
   split at hx
   ·rename_i T g' st rs hT hj
    split at hx
    ·rename_i row hr
     simp only [Option.map_eq_some_iff,Prod.mk.injEq] at hx
     obtain⟨v',h1,rfl,rfl⟩:=hx
     obtain⟨rfl,rfl⟩:=hq _ _ _ rfl
     exact Ba hI hl hj hr hT h1
    ·cases hx
   ·cases hx
  ·rename_i row c ha
   rw [ha]
   split at hx
   ·rename_i T hT
    simp only [Option.map_eq_some_iff,Prod.mk.injEq] at hx
    obtain⟨v',h1,rfl,rfl⟩:=hx
    exact Cf hT h1
   ·cases hx
  ·cases hx
 split at hx
 ·rename_i hp
  simp only [Option.map_eq_some_iff,Prod.mk.injEq] at hx
  obtain⟨v',h1,rfl,rfl⟩:=hx
  revert h1
  cases op <;> first
   | exact id
   | (simp [Aex] at hp)
 ·cases hx
theorem X9 {rest:List Oper} : ∀ {ops:List Oper} {hs:List Nat} {l l':List (Nat×AV)} {A B:List (Nat×Nat)},Oc P n all xs ops hs l=some (l',A,B)→A=B.map (fun q=>(ix ids q.1,q.2))→Ids h0 ids N→xs.length=N →
  WO P f n d Q k all m rest (A2 l') ds (hp h0 ids xs) u→WO P f n d Q k all m (ops++rest) (A2 l) ds (hp h0 ids xs) u
 | [],hs,l,l',A,B,hx,hA,hI,hl,hk=>by
  simp only [Oc,Option.some.injEq,Prod.mk.injEq] at hx
  obtain⟨rfl,rfl,rfl⟩:=hx
  exact hk
 | o::ops,hs,l,l',A,B,hx,hA,hI,hl,hk=>by
  unfold Oc at hx
  split at hx
  ·rename_i hd
   split at hx
   ·rename_i t hw ht
    rw [ht] at hd
    have step : ∀ {v:AV},Ej P (A2 l) (hp h0 ids xs) o.op=some v→WO P f n d Q k all m (ops++rest) (A2 ((t,v)::l)) ds (hp h0 ids xs) u→WO P f n d Q k all m (o::ops++rest) (A2 l) ds (hp h0 ids xs) u:=by
     intro v hv hk'
     refine Oy (by rw [ht]; exact hd) hw fun hb K U hK hU=>Aas (t:=ds) hv (hK _ _ _ _ ?_)
     rw [ht,Ia]; exact hk'
    split at hx
    ·rename_i v hr
     exact step (Z2 hI hl hr (fun _ _ _ h=>by cases h)) (X9 hx hA hI hl hk)
    ·rename_i v ob g g' hr
     simp only [Option.map_eq_some_iff,Prod.mk.injEq] at hx
     obtain⟨⟨l1,A1,B1⟩,hx,rfl,rfl,rfl⟩:=hx
     simp only [List.map_cons,List.cons.injEq,Prod.mk.injEq] at hA
     exact step (Z2 hI hl hr (fun o2 g2 g2' h=>by cases h; exact hA.1)) (X9 hx hA.2 hI hl hk)
    ·cases hx
   ·rename_i t hw ht
    rw [ht] at hd
    exact Ae8 (by rw [ht]; exact hd) hw (by rw [ht,Ia]; exact X9 hx hA hI hl hk)
   ·rename_i hw ht
    exact Ae8 (by rw [ht]; rfl) hw (by rw [ht]; exact X9 hx hA hI hl hk)
   ·cases hx
  ·cases hx
theorem Vr {ops:List Oper}{ks:List Nat}{news:List (Nat×AV)} : ∀ {hs:List Nat} {l l':List (Nat×AV)} {A B:List (Nat×Nat)} {ops:List Oper},Oc P n all xs ops hs l=some (l',A,B) → ∀ t,(∀ o ∈ ops,o.dst≠some t)→A2 l' t=A2 l t
 | hs,l,l',A,B,[],hx,t,ho=>by
  simp only [Oc,Option.some.injEq,Prod.mk.injEq] at hx
  obtain⟨rfl,rfl,rfl⟩:=hx
  rfl
 | hs,l,l',A,B,o::ops,hx,t,ho=>by
  have ho' : ∀ o ∈ ops,o.dst≠some t:=fun q hq=>ho q (List.mem_cons_of_mem _ hq)
  have hne : ∀ {t':Nat} {v:AV},o.dst=some t'→A2 ((t',v)::l) t=A2 l t:=by
   intro t' v h
   have:t≠t':=fun e=>ho o (List.mem_cons_self ..) (e ▸ h)
   simp only [A2]
   have:Nat.beq t t'=false:=by
    cases hq:Nat.beq t t' with
    | false=>rfl
    | true=>exact absurd (Nat.eq_of_beq_eq_true hq) this
   rw [this]; rfl
  unfold Oc at hx
  split at hx
  ·split at hx
   ·rename_i t' hw ht
    split at hx
    ·rw [Vr (ks:=ks) (news:=news) (ops:=ops) hx t ho',hne ht]
    ·simp only [Option.map_eq_some_iff,Prod.mk.injEq] at hx
     obtain⟨⟨l1,A1,B1⟩,hx,rfl,rfl,rfl⟩:=hx
     rw [Vr (ks:=ks) (news:=news) (ops:=ops) hx t ho',hne ht]
    ·cases hx
   ·rename_i t' hw ht
    rw [Vr (ks:=ks) (news:=news) (ops:=ops) hx t ho',hne ht]
   ·exact Vr (ks:=ks) (news:=news) (ops:=ops) hx t ho'
   ·cases hx
  ·cases hx
theorem Anc {ops:List Oper}(K:Nat)(hs:List Nat)(news:List (Nat×AV))(hI:Ids h0 ids N)(hl:xs.length=N)
  (hc:(Oc P n all xs (ops.take K) hs l).map (fun r=>(news.map (fun p=>A2 r.1 p.1),r.2.1,Aeq (ops.take K) (news.map (·.1)) l))=some (news.map (·.2),((Oc P n all xs (ops.take K) hs l).elim [] fun r=>r.2.2.map fun q=>(ix ids q.1,q.2)),true))
  (hk:WO P f n d Q k all m (ops.drop K) (A2 (news++l)) ds (hp h0 ids xs) u):WO P f n d Q k all m ops (A2 l) ds (hp h0 ids xs) u:=by
 cases hr:Oc P n all xs (ops.take K) hs l with
 | none=>rw [hr] at hc; cases hc
 | some r=>
  obtain⟨l',A,B⟩:=r
  rw [hr] at hc
  simp only [Option.map_some,Option.elim_some,Option.some.injEq,Prod.mk.injEq] at hc
  obtain⟨h1,h2,h3⟩:=hc
  have:=X9 (rest:=ops.drop K) hr h2 hI hl (f:=f) (d:=d) (Q:=Q) (k:=k) (m:=m) (ds:=ds) (u:=u) (fun hb i hi=>Q1 (fun t=>?_) (hk hb i hi))
  ·rwa [List.take_append_drop] at this
  ·
   have key : ∀ (ns:List (Nat×AV)),ns.map (fun p=>A2 l' p.1)=ns.map (·.2)→(∀ s,s ∈ ns.map (·.1)→s ∈ news.map (·.1))→(∀ s,s ∈ news.map (·.1)→s=t→s ∈ ns.map (·.1))→A2 (ns++l) t=.any∨A2 (ns++l) t=A2 l' t:=by
    intro ns
    induction ns with
    | nil=>
     intro _ _ hsub
     simp only [List.nil_append]
     by_cases hin:l.any (fun p=>Nat.beq t p.1)=true
     ·right
      symm
      refine Vr (ks:=[]) (news:=[]) (ops:=ops.take K) hr t fun o ho hd=>?_
      have:=List.all_eq_true.1 h3 o ho
      rw [hd] at this
      simp only [Bool.or_eq_true,Bool.not_eq_true',List.contains_iff_mem] at this
      rcases this with hc | hc
      ·exact absurd (hsub t hc rfl) (by simp)
      ·rw [hc] at hin; cases hin
     ·left
      have : ∀ l:List (Nat×AV),l.any (fun p=>Nat.beq t p.1)≠true→A2 l t=.any:=by
       intro l
       induction l with
       | nil=>intro _; rfl
       | cons p l ih=>
        intro hne
        simp only [List.any_cons] at hne
        simp only [A2]
        have h1:Nat.beq t p.1=false:=by cases hq:Nat.beq t p.1 with | false=>rfl | true=>exact absurd (by rw [hq]; rfl) hne
        rw [h1]
        exact ih (fun h=>hne (by rw [h,h1]; rfl))
      exact this l hin
    | cons p ns ih=>
     intro hv h4 h5
     simp only [List.map_cons,List.cons.injEq] at hv
     simp only [List.cons_append,A2]
     cases hq:Nat.beq t p.1 with
     | true=>
      right
      have:t=p.1:=Nat.eq_of_beq_eq_true hq
      subst this
      exact hv.1.symm
     | false=>
      refine ih hv.2 (fun s hs=>h4 s (by simp [hs])) (fun s hs e=>?_)
      rcases List.mem_cons.1 (h5 s hs e) with h | h
      ·subst e; rw [h] at hq; simp at hq
      ·exact h
   exact key news h1 (fun s hs=>hs) (fun s hs _=>hs)
theorem Ac {ops:List Oper}(K:Nat)(hs:List Nat)(news:List (Nat×AV))(hk:WO P f n d Q k all m (ops.drop K) (A2 (news++l)) ds (hp h0 ids xs) u)(hI:Ids h0 ids N:=by assumption)(hl:xs.length=N:=by rfl)
  (hc:(Oc P n all xs (ops.take K) hs l).map (fun r=>(news.map (fun p=>A2 r.1 p.1),r.2.1,Aeq (ops.take K) (news.map (·.1)) l))=some (news.map (·.2),((Oc P n all xs (ops.take K) hs l).elim [] fun r=>r.2.2.map fun q=>(ix ids q.1,q.2)),true):=by kernel_rfl):WO P f n d Q k all m ops (A2 l) ds (hp h0 ids xs) u:=Anc K hs news hI hl hc hk
theorem Ax {ops:List Oper}{t:Nat}{b b':Bool}(hb:b=b')(ht:A2 l t=.bool b)(hk:WO P f n d Q k all m ops (A2 ((t,.bool b')::l)) ds h u):WO P f n d Q k all m ops (A2 l) ds h u:=by
 subst hb
 refine fun hV i hi=>Q1 (fun s=>?_) (hk hV i hi)
 right
 simp only [A2]
 cases hq:Nat.beq s t with
 | true=>rw [Nat.eq_of_beq_eq_true hq,ht]; rfl
 | false=>rfl
theorem Au {ops:List Oper}{fr:Nat→AV}(js:List Nat){zs ys:List (Option AO)}(hI:Ids h0 ids N)(hl:xs.length=N)(hk:P1 N js=true)(hz:js.length=zs.length)(hr:WO P f n d Q k all m ops fr ds (hp h0 ids ys) u)
  (e:Q3 js zs xs=ys:=by first | (simp only [List.set_cons_zero,List.set_cons_succ,List.cons_append,List.nil_append,List.replicate_succ,List.replicate_zero,Q3,Un,Tz,AV.cells,AV.I,AV.q]; rfl) | rfl):WO P f n d Q k all m ops fr ds (hp (hp h0 ids (Rc js xs)) (Vm ids js) zs) u:=Akf js ys hI hl hk hz e hr
theorem Bo {todo:List Item}{l':List (Nat×AV)}(hr:WR P f n d Q m todo (A2 l') ds h u)(hx:FrIs l l':=by repeat (first | exact .nil | refine .cons rfl ?_)):WR P f n d Q m todo (A2 l) ds h u:=D0 l' hx hr
theorem A5 {ops:List Oper}{l':List (Nat×AV)}(hr:WO P f n d Q k all m ops (A2 l') ds h u)(hx:FrIs l l':=by repeat (first | exact .nil | refine .cons rfl ?_)):WO P f n d Q k all m ops (A2 l) ds h u:=B8 l' hx hr
theorem Aj {todo:List Item}{fr:Nat→AV}{ys:List (Option AO)}(hr:WR P f n d Q m todo fr ds (hp h0 ids ys) u)(e:xs=ys:=by first | (simp only [List.set_cons_zero,List.set_cons_succ,List.cons_append,List.nil_append,List.replicate_succ,List.replicate_zero,Q3,Un,Tz,AV.cells,AV.I,AV.q]; rfl) | rfl) :
  WR P f n d Q m todo fr ds (hp h0 ids xs) u:=e ▸ hr
end
theorem J {α:Sort _}{a:α}:a=a:=rfl
theorem FI {l l':List (Nat×AV)}(h:l'.map (fun p=>A2 l p.1)=l'.map (·.2)):FrIs l l':=by
 induction l' with
 | nil=>exact .nil
 | cons p r ih=>
  rw [List.map_cons,List.map_cons] at h
  injection h with h1 h2
  exact .cons h1 (ih h2)
end Go.Am
namespace Go.Am
open Go
set_option maxRecDepth 100000
set_option maxHeartbeats 4000000
set_option linter.unusedSimpArgs false
set_option linter.unusedVariables false
structure Span where
 From:Int
 To:Int
 deriving DecidableEq
def B4 (x:Span):List AV:=[(.int .i64 x.From),(.int .i64 x.To)]
theorem Afa (x:Span):Ee 2 (B4 x):=Ks rfl rfl
structure Volume where
 Name:Av
 Closed:(List Span)
 deriving DecidableEq
def Ar (x:Volume):List AV:=[(.str x.Name),(.sl 2 (List.map B4 x.Closed))]
theorem U7 (x:Volume):Ee 2 (Ar x):=Ks rfl rfl
structure Sector where
 Name:Av
 Names:(List Av)
 Volumes:(List Int)
 Radar:Int
 Procedural:Int
 deriving DecidableEq
def A8 (x:Sector):List AV:=[(.str x.Name),(.sl 1 (List.map rS x.Names)),(.sl 1 (List.map (rI .i64) x.Volumes)),(.int .i64 x.Radar),(.int .i64 x.Procedural)]
theorem Sm (x:Sector):Ee 5 (A8 x):=Ks rfl rfl
structure Config where
 Name:Av
 Names:(List Av)
 Sectors:(List Int)
 deriving DecidableEq
def Bl (x:Config):List AV:=[(.str x.Name),(.sl 1 (List.map rS x.Names)),(.sl 1 (List.map (rI .i64) x.Sectors))]
theorem X5 (x:Config):Ee 3 (Bl x):=Ks rfl rfl
structure Segment where
 Name:Av
 In:Av
 Volume:Int
 Length:Int
 Open:(List Span)
 deriving DecidableEq
def Bf (x:Segment):List AV:=[(.str x.Name),(.str x.In),(.int .i64 x.Volume),(.int .i64 x.Length),(.sl 2 (List.map B4 x.Open))]
theorem W3 (x:Segment):Ee 5 (Bf x):=Ks rfl rfl
structure Route where
 Name:Av
 A:Av
 B:Av
 From:Int
 To:Int
 Names:(List Av)
 Segments:(List Int)
 deriving DecidableEq
def Bs (x:Route):List AV:=[(.str x.Name),(.str x.A),(.str x.B),(.int .i64 x.From),(.int .i64 x.To),(.sl 1 (List.map rS x.Names)),(.sl 1 (List.map (rI .i64) x.Segments))]
theorem Y7 (x:Route):Ee 7 (Bs x):=Ks rfl rfl
structure Mode where
 Name:Av
 Places:Int
 deriving DecidableEq
def Da (x:Mode):List AV:=[(.str x.Name),(.int .i64 x.Places)]
theorem Aet (x:Mode):Ee 2 (Da x):=Ks rfl rfl
structure Airport where
 Name:Av
 Modes:(List Mode)
 deriving DecidableEq
def Bd (x:Airport):List AV:=[(.str x.Name),(.sl 2 (List.map Da x.Modes))]
theorem Tv (x:Airport):Ee 2 (Bd x):=Ks rfl rfl
structure Class where
 Name:Av
 Slow:Int
 Fast:Int
 Places:Int
 deriving DecidableEq
def B6 (x:Class):List AV:=[(.str x.Name),(.int .i64 x.Slow),(.int .i64 x.Fast),(.int .i64 x.Places)]
theorem Y5 (x:Class):Ee 4 (B6 x):=Ks rfl rfl
structure Rule where
 Kind:Int
 C:Av
 A:Av
 Class:Int
 Airport:Int
 N:Int
 Hours:Span
 deriving DecidableEq
def A4 (x:Rule):List AV:=[(.int .i64 x.Kind),(.str x.C),(.str x.A),(.int .i64 x.Class),(.int .i64 x.Airport),(.int .i64 x.N),(.int .i64 x.Hours.From),(.int .i64 x.Hours.To)]
theorem Rt (x:Rule):Ee 8 (A4 x):=Ks rfl rfl
structure Airspace where
 Volumes:(List Volume)
 Sectors:(List Sector)
 Configs:(List Config)
 Segments:(List Segment)
 Routes:(List Route)
 Airports:(List Airport)
 Classes:(List Class)
 Rules:(List Rule)
 deriving DecidableEq
def A0 (x:Airspace):List AV:=[(.sl 2 (List.map Ar x.Volumes)),(.sl 5 (List.map A8 x.Sectors)),(.sl 3 (List.map Bl x.Configs)),(.sl 5 (List.map Bf x.Segments)),(.sl 7 (List.map Bs x.Routes)),(.sl 2 (List.map Bd x.Airports)),(.sl 4 (List.map B6 x.Classes)),(.sl 8 (List.map A4 x.Rules))]
structure Token where
 Kind:Int
 Text:Av
 N:Int
 At:Int
 deriving DecidableEq
def Ab (x:Token):List AV:=[(.int .i64 x.Kind),(.str x.Text),(.int .i64 x.N),(.int .i64 x.At)]
theorem N7 (x:Token):Ee 4 (Ab x):=Ks rfl rfl
structure T63 where
 fAt:Int
 fE:Int
 deriving DecidableEq
structure T67 where
 fL:(List Token)
 fEnd:Int
 fA:Airspace
 deriving DecidableEq
def Am6 (x:T67):List AV:=[(.sl 4 (List.map Ab x.fL)),(.int .i64 x.fEnd),(.sl 2 (List.map Ar x.fA.Volumes)),(.sl 5 (List.map A8 x.fA.Sectors)),(.sl 3 (List.map Bl x.fA.Configs)),(.sl 5 (List.map Bf x.fA.Segments)),(.sl 7 (List.map Bs x.fA.Routes)),(.sl 2 (List.map Bd x.fA.Airports)),(.sl 4 (List.map B6 x.fA.Classes)),(.sl 8 (List.map A4 x.fA.Rules))]
structure T69 where
 L:(List Token)
 N:Int
 End:Int
 E:Int
 At:Int
 deriving DecidableEq
structure T88 where
 fL:(List Token)
 fBad:Bool
 deriving DecidableEq
structure T119 where
 fSrc:Av
 fAt:Int
 fL:(List Token)
 deriving DecidableEq
def My (x:T119):List AV:=[(.str x.fSrc),(.int .i64 x.fAt),(.sl 4 (List.map Ab x.fL))]
end Go.Am
namespace Go.Am
open Go
set_option maxRecDepth 100000
set_option maxHeartbeats 4000000
set_option linter.unusedSimpArgs false
set_option linter.unusedVariables false
noncomputable section
def strings_IndexByte (s:Av)(c:Int):R Int:=.ok (Lib.indexByte s c.toNat.toUInt8)
def Kc (c:Int):R Int:=
 if(((decide (c≥97))&&(decide (c≤122)))||((decide (c≥65))&&(decide (c≤90)))) then
(.ok 2)
else
(if((decide (c≥48))&&(decide (c≤57))) then
(.ok 3)
else
(if(c==95) then
(.ok 5)
else
(if((((c==32)||(c==9))||(c==10))||(c==13)) then
(.ok 1)
else
((strings_IndexByte [123,125,40,41,59,44,61,35,47,60,33,45,46] c).bind fun r=>
 if r≥0 then
(.ok 4)
else
(.ok 0)))))
def Nl (s:T119):R Unit:=
 .pan ⟨113,.int .i64 s.fAt⟩
def Ft (v:Int)(j:Nat)(a:Int):R (Unit ⊕ Int):=
 if(v==a) then
(.ok (.inr ((j:Int))))
else
(.ok (.inl ()))
def N8 (s:List Int)(v:Int):R Int:=
 (each (fun j a=>fun _=>Ft v j a) 0 s ()).bind (Ds (fun _=>.ok (-1)) (fun r=>.ok r))
def Kr (s:List Int)(v:Int):R Bool:=
 (N8 s v).bind fun r=>
 .ok (decide (r≥0))
def Lf (s:T119)(some:List Int)(n:Int):R (Int ⊕ Int):=
 (if(decide (n<(s.fSrc.length:Int))) then(Ef s.fSrc n).bind fun a=>
 (Kc (a.toNat:Int)).bind fun r=>
 (Kr some r).bind fun r1=>
 R.ok r1 else R.ok false).bind (fun(b:Bool)=>if b then
(.ok (.inl (IntKind.wrap .i64 (n+1))))
else
(.ok (.inr (n))))
def K6 (s:T119)(n1:Int):R Av:=
 if(0:Int)≤s.fAt∧s.fAt≤n1∧n1≤(s.fSrc.length:Int) then
 .ok (cut s.fSrc s.fAt n1) else .bad
def Ik (s:T119)(some:List Int):R Av:=
 (loop (fun n=>Lf s some n) s.fAt).bind (fun n1=>K6 s n1)
def Ok (a1:UInt8):R (Unit ⊕ Bool):=
 (Kc (a1.toNat:Int)).bind fun c=>
 if(((c != 2)&&(c != 3))&&(c != 5)) then
(.ok (.inr (false)))
else
(.ok (.inl ()))
def R1 (s:Av):R Bool:=
 (if((s==[])||(decide ((s.length:Int) > 32))) then R.ok true else(Ef s 0).bind fun a=>
 (Kc (a.toNat:Int)).bind fun r=>
 R.ok (r != 2)).bind (fun(b:Bool)=>if b then
(.ok false)
else
(if s.length≤Ek then
((each (fun _ a1=>fun _=>Ok a1) 0 s ()).bind (Ds (fun _=>.ok true) (fun r=>.ok r))) else .bad))
def Qi (t:Token):R Bool:=
 if(t.Kind==1) then
((R1 t.Text).bind fun r=>
 .ok (r&&(t.N==0)))
else
(if(t.Kind==2) then
(.ok (((t.Text==[])&&(decide (t.N≥0)))&&(decide (t.N≤1099511627776))))
else
(if(t.Kind==3) then
((if((t.Text.length:Int)==1) then(Ef t.Text 0).bind fun a=>
 (Kc (a.toNat:Int)).bind fun r1=>
 R.ok (r1==4) else R.ok false).bind (fun(b:Bool)=>.ok (b&&(t.N==0))))
else
(.ok false)))
def Nt (s:Av):R (Int×Bool):=if s.length≤281474976710656 then(match Lib.atoiAll s with
 | .ok v=>.ok (v,false)
 | Lib.NumEnd.syntax=>.ok (0,true)
 | .range=>.ok (Lib.atoiSat s,true)) else .bad
def strconv_Itoa (n:Int):R Av:=if -9223372036854775808≤n∧n≤9223372036854775807 then .ok (Lib.itoa n) else .bad
def Gy (s:Av)(vprefix:Av):R Bool:=
 (if(decide ((s.length:Int)≥(vprefix.length:Int))) then if(0:Int)≤(vprefix.length:Int)∧(vprefix.length:Int)≤(s.length:Int) then
 R.ok ((s.take (Int.toNat (vprefix.length:Int)))==vprefix) else .bad else R.ok false).bind (fun(b:Bool)=>.ok b)
def Lu (s:Av)(vprefix:Av):R Bool:=
 (Gy s vprefix).bind fun r=>
 .ok r
def Ko (s0_src:Av)(s0_at:Int)(l:List Token):R Int:=
 (Ik ({ fSrc:=s0_src,fAt:=s0_at,fL:=l }:T119) [1]).bind fun r=>
 .ok (IntKind.wrap .i64 (s0_at+(r.length:Int)))
def Fx (text:Av)(t:Token)(s0_src:Av)(s0_at:Int)(l:List Token):R (List Token):=
 (Qi t).bind fun r=>
 if r then
(if(l.length+[({ Kind:=t.Kind,Text:=t.Text,N:=t.N,At:=s0_at }:Token)].length) * 40≤Ek then
 .ok (l++[({ Kind:=t.Kind,Text:=t.Text,N:=t.N,At:=s0_at }:Token)]) else .bad)
else
(.pan ⟨113,.int .i64 s0_at⟩)
def Lh (s0_src:Av)(s0_at:Int)(l:List Token):R (Int×(List Token)):=
 (Ik ({ fSrc:=s0_src,fAt:=s0_at,fL:=l }:T119) [2,3,5]).bind fun t=>
 (Fx t ({ Kind:=1,Text:=t,N:=0,At:=0 }:Token) s0_src s0_at l).bind fun r=>
 .ok ((IntKind.wrap .i64 (s0_at+(t.length:Int))),r)
def J7 (s0_src:Av)(s0_at:Int)(l:List Token):R (Int×(List Token)):=
 (Ik ({ fSrc:=s0_src,fAt:=s0_at,fL:=l }:T119) [3]).bind fun t=>
 (Nt t).bind fun r=>
 (if r.2 then R.ok true else(strconv_Itoa r.1).bind fun r1=>
 R.ok (!(r1==t))).bind (fun(b:Bool)=>if b then
(.pan ⟨113,.int .i64 s0_at⟩)
else
((Fx t ({ Kind:=2,Text:=[],N:=r.1,At:=0 }:Token) s0_src s0_at l).bind fun r2=>
 .ok ((IntKind.wrap .i64 (s0_at+(t.length:Int))),r2)))
def K8 (s0_src:Av)(s0_at:Int)(l:List Token):R (Int×(List Token)):=
 if(0:Int)≤s0_at∧s0_at≤(s0_src.length:Int) then
 (Lu (s0_src.drop (Int.toNat s0_at)) [47,47]).bind fun r=>
 if r then
(if(0:Int)≤s0_at∧s0_at≤(s0_src.length:Int) then
 (strings_IndexByte (s0_src.drop (Int.toNat s0_at)) 10).bind fun n=>
 if n≥0 then
(.ok ((IntKind.wrap .i64 (s0_at+n)),l))
else
(.ok ((s0_src.length:Int),l)) else .bad)
else
(if(0:Int)≤s0_at∧s0_at≤(IntKind.wrap .i64 (s0_at+1))∧(IntKind.wrap .i64 (s0_at+1))≤(s0_src.length:Int) then
 (Fx (cut s0_src s0_at (IntKind.wrap .i64 (s0_at+1))) ({ Kind:=3,Text:=(cut s0_src s0_at (IntKind.wrap .i64 (s0_at+1))),N:=0,At:=0 }:Token) s0_src s0_at l).bind fun r1=>
 .ok ((IntKind.wrap .i64 (s0_at+((cut s0_src s0_at (IntKind.wrap .i64 (s0_at+1))).length:Int))),r1) else .bad) else .bad
def Ii (n:Int):R Int:=
 .ok n
def L3 (src:Av)(fAt:Int)(l:List Token):R ((Int×(List Token)) ⊕ (Int×(List Token))):=
 if fAt<(src.length:Int) then
((Ef src fAt).bind fun a=>
 (Kc (a.toNat:Int)).bind fun r=>
 if r=0 then
((Nl ({ fSrc:=src,fAt:=fAt,fL:=l }:T119)).bind fun _=>
 .ok (.inl (fAt,l)))
else
(if r=1 then
((Ko src fAt l).bind fun r2=>
 .ok (.inl (r2,l)))
else
(if r=2 then
((Lh src fAt l).bind fun r3=>
 .ok (.inl (r3.1,r3.2)))
else
(if r=3 then
((J7 src fAt l).bind fun r4=>
 .ok (.inl (r4.1,r4.2)))
else
(if r=4 then
((K8 src fAt l).bind fun r5=>
 .ok (.inl (r5.1,r5.2)))
else
(if r=5 then
((Nl ({ fSrc:=src,fAt:=fAt,fL:=l }:T119)).bind fun _=>
 .ok (.inl (fAt,l)))
else
(.bad)))))))
else
(.ok (.inr ((fAt,l))))
def Tw (fAt3:Int)(l1:List Token):R ((List Token)×Int×Int):=
 .ok (l1,0,0)
def U2 (src:Av):R ((List Token)×Int×Int):=
 if(src.length:Int) > 65536 then
(.ok ([],0,2))
else
((loop (Cz fun fAt l=>L3 src fAt l) (0,[])).bind (Cz fun fAt3 l1=>Tw fAt3 l1))
def V8 (src:Av):R ((List Token)×Int×Int):=
 (U2 src).catch' (Mz 113 .i64 (fun n=>(Ii n).bind fun p=>.ok ([],p,70)) (fun _=>.bad))
def Le (r:T67)(e:Int):R Unit:=
 if(r.fL.length:Int) > 0 then
((Ef r.fL 0).bind fun a=>
 .pan ⟨64,.two .i64 .i64 a.At e⟩)
else
(.pan ⟨64,.two .i64 .i64 r.fEnd e⟩)
def Bi (e:Int)(s_l:List Token)(s_end:Int):R Unit:=
 if(s_l.length:Int) > 0 then
((Ef s_l 0).bind fun a=>
 .pan ⟨64,.two .i64 .i64 a.At e⟩)
else
(.pan ⟨64,.two .i64 .i64 s_end e⟩)
def Ji (a:Token):R Bool:=
 .ok true
def Ei (s_l:List Token):R Token:=
 (Ef s_l 0).bind fun a2=>
 if(0:Int)≤1∧1≤(s_l.length:Int) then
 .ok a2 else .bad
def Lp (kind:Int)(s_l:List Token)(s_end:Int):R Token:=
 (if((s_l.length:Int)==0) then R.ok true else(Ef s_l 0).bind fun a=>
 R.ok (a.Kind != kind)).bind (fun(b:Bool)=>(if b then R.ok true else(Ef s_l 0).bind fun a1=>
 (Ji a1).bind fun r=>
 R.ok (!r)).bind (fun(b1:Bool)=>if b1 then
((Bi 80 s_l s_end).bind fun _=>
 Ei s_l)
else
(Ei s_l)))
def Bz (s_l:List Token)(s_end:Int):R Av:=
 (Lp 1 s_l s_end).bind fun r=>
 .ok r.Text
def Jc (t:Token)(b:Av):R Bool:=
 .ok (t.Text==b)
def D6 (s0_l:List Token):R Token:=
 (Ef s0_l 0).bind fun a2=>
 if(0:Int)≤1∧1≤(s0_l.length:Int) then
 .ok a2 else .bad
def Kh (kind:Int)(s0_l:List Token)(s0_end:Int)(s1:Av):R Token:=
 (if((s0_l.length:Int)==0) then R.ok true else(Ef s0_l 0).bind fun a=>
 R.ok (a.Kind != kind)).bind (fun(b:Bool)=>(if b then R.ok true else(Ef s0_l 0).bind fun a1=>
 (Jc a1 s1).bind fun r=>
 R.ok (!r)).bind (fun(b1:Bool)=>if b1 then
((Bi 80 s0_l s0_end).bind fun _=>
 D6 s0_l)
else
(D6 s0_l)))
def Ct (text:Av)(s_l:List Token)(s_end:Int):R Unit:=
 (Kh 1 s_l s_end text).bind fun r=>
 .ok ()
def Gd (t:Token)(b:Int)(c:Int):R Bool:=
 .ok ((decide (t.N≥b))&&(decide (t.N≤c)))
def D4 (s0_l:List Token):R Token:=
 (Ef s0_l 0).bind fun a2=>
 if(0:Int)≤1∧1≤(s0_l.length:Int) then
 .ok a2 else .bad
def Kj (kind:Int)(s0_l:List Token)(s0_end:Int)(s1:Int)(s2:Int):R Token:=
 (if((s0_l.length:Int)==0) then R.ok true else(Ef s0_l 0).bind fun a=>
 R.ok (a.Kind != kind)).bind (fun(b:Bool)=>(if b then R.ok true else(Ef s0_l 0).bind fun a1=>
 (Gd a1 s1 s2).bind fun r=>
 R.ok (!r)).bind (fun(b1:Bool)=>if b1 then
((Bi 80 s0_l s0_end).bind fun _=>
 D4 s0_l)
else
(D4 s0_l)))
def C6 (least:Int)(most:Int)(s_l:List Token)(s_end:Int):R Int:=
 (Kj 2 s_l s_end least most).bind fun r=>
 .ok r.N
def E8 (s1_l:List Token)(s1_end:Int):R Mode:=
 (Ct [109,111,100,101] s1_l s1_end).bind fun _=>
 (Bz (s1_l.drop 1) s1_end).bind fun r1=>
 (C6 0 64 ((s1_l.drop 1).drop 1) s1_end).bind fun r2=>
 .ok ({ Name:=r1,Places:=r2 }:Mode)
def E2 (kind:Int)(text:Av)(s_l:List Token)(s_end:Int):R Bool:=
 (if(decide ((s_l.length:Int) > 0)) then(Ef s_l 0).bind fun a=>
 R.ok (a.Kind==kind) else R.ok false).bind (fun(b:Bool)=>(if b then(Ef s_l 0).bind fun a1=>
 R.ok (a1.Text==text) else R.ok false).bind (fun(b1:Bool)=>.ok b1))
def Jj (t:Token)(b:Av):R Bool:=
 .ok (t.Text==b)
def D5 (s0_l:List Token):R Token:=
 (Ef s0_l 0).bind fun a2=>
 if(0:Int)≤1∧1≤(s0_l.length:Int) then
 .ok a2 else .bad
def Ki (kind:Int)(s0_l:List Token)(s0_end:Int)(s1:Av):R Token:=
 (if((s0_l.length:Int)==0) then R.ok true else(Ef s0_l 0).bind fun a=>
 R.ok (a.Kind != kind)).bind (fun(b:Bool)=>(if b then R.ok true else(Ef s0_l 0).bind fun a1=>
 (Jj a1 s1).bind fun r=>
 R.ok (!r)).bind (fun(b1:Bool)=>if b1 then
((Bi 80 s0_l s0_end).bind fun _=>
 D5 s0_l)
else
(D5 s0_l)))
def B5 (text:Av)(s_l:List Token)(s_end:Int):R Unit:=
 (Ki 3 s_l s_end text).bind fun r=>
 .ok ()
def E6 (s:Av)(s1_l:List Token)(s1_end:Int):R Class:=
 (Ct [115,108,111,119] s1_l s1_end).bind fun _=>
 (C6 1 64 (s1_l.drop 1) s1_end).bind fun r1=>
 (Ct [102,97,115,116] ((s1_l.drop 1).drop 1) s1_end).bind fun _=>
 (C6 r1 64 (((s1_l.drop 1).drop 1).drop 1) s1_end).bind fun r3=>
 (Ct [112,108,97,99,101,115] ((((s1_l.drop 1).drop 1).drop 1).drop 1) s1_end).bind fun _=>
 (C6 1 8 (((((s1_l.drop 1).drop 1).drop 1).drop 1).drop 1) s1_end).bind fun r5=>
 .ok ({ Name:=s,Slow:=r1,Fast:=r3,Places:=r5 }:Class)
def Gu (s_l:List Token)(s_end:Int):R Span:=
 (C6 0 1439 s_l s_end).bind fun r=>
 (Ct [116,111] (s_l.drop 1) s_end).bind fun _=>
 (C6 (IntKind.wrap .i64 (r+1)) 1440 ((s_l.drop 1).drop 1) s_end).bind fun r2=>
 .ok ({ From:=r,To:=r2 }:Span)
def Ju (s0:Rule)(s2_l:List Token)(s2_end:Int):R Rule:=
 (Ct [97,116] s2_l s2_end).bind fun _=>
 (Bz (s2_l.drop 1) s2_end).bind fun r1=>
 (Gu ((s2_l.drop 1).drop 1) s2_end).bind fun r2=>
 .ok ({ Kind:=s0.Kind,C:=s0.C,A:=r1,Class:=s0.Class,Airport:=s0.Airport,N:=s0.N,Hours:=r2 }:Rule)
def Fc (class1:Av)(s0:Int)(s3_l:List Token)(s3_end:Int):R Rule:=
 (Ju ({ Kind:=s0,C:=class1,A:=[],Class:=0,Airport:=0,N:=0,Hours:=({ From:=0,To:=0 }:Span) }:Rule) s3_l s3_end).bind fun r=>
 .ok r
def Mb (a:Rule):R Unit:=
 .ok ()
def Gc (class1:Av)(s0:Int):R Unit:=
 (Mb ({ Kind:=s0,C:=class1,A:=[],Class:=0,Airport:=0,N:=0,Hours:=({ From:=0,To:=0 }:Span) }:Rule)).bind fun _=>
 .ok ()
def F2 (t:Token):R Bool:=
 .ok ((decide (t.N≤60))&&((Int.tmod t.N 10)==0))
def D7 (s_l:List Token):R Token:=
 (Ef s_l 0).bind fun a2=>
 if(0:Int)≤1∧1≤(s_l.length:Int) then
 .ok a2 else .bad
def F8 (kind:Int)(s_l:List Token)(s_end:Int):R Token:=
 (if((s_l.length:Int)==0) then R.ok true else(Ef s_l 0).bind fun a=>
 R.ok (a.Kind != kind)).bind (fun(b:Bool)=>(if b then R.ok true else(Ef s_l 0).bind fun a1=>
 (F2 a1).bind fun r=>
 R.ok (!r)).bind (fun(b1:Bool)=>if b1 then
((Bi 80 s_l s_end).bind fun _=>
 D7 s_l)
else
(D7 s_l)))
def Jm (s0:Rule)(s2_l:List Token)(s2_end:Int):R Rule:=
 (F8 2 s2_l s2_end).bind fun r=>
 .ok ({ Kind:=s0.Kind,C:=s0.C,A:=s0.A,Class:=s0.Class,Airport:=s0.Airport,N:=r.N,Hours:=s0.Hours }:Rule)
def Fe (class1:Av)(s0:Int)(s3_l:List Token)(s3_end:Int):R Rule:=
 (Jm ({ Kind:=s0,C:=class1,A:=[],Class:=0,Airport:=0,N:=0,Hours:=({ From:=0,To:=0 }:Span) }:Rule) s3_l s3_end).bind fun r=>
 .ok r
def Jn (s0:Rule)(s2_l:List Token)(s2_end:Int):R Rule:=
 (C6 1 8 s2_l s2_end).bind fun r=>
 .ok ({ Kind:=s0.Kind,C:=s0.C,A:=s0.A,Class:=s0.Class,Airport:=s0.Airport,N:=r,Hours:=s0.Hours }:Rule)
def Ff (class1:Av)(s0:Int)(s3_l:List Token)(s3_end:Int):R Rule:=
 (Jn ({ Kind:=s0,C:=class1,A:=[],Class:=0,Airport:=0,N:=0,Hours:=({ From:=0,To:=0 }:Span) }:Rule) s3_l s3_end).bind fun r=>
 .ok r
def Gj (s0_end:Int)(fL:List Token)(l1:List Mode)(r:Mode):R (((List Token)×(List Mode)) ⊕ ((List Mode)×(List Token))):=
 (B5 [44] (((fL.drop 1).drop 1).drop 1) s0_end).bind fun _=>
 .ok (.inl (((((fL.drop 1).drop 1).drop 1).drop 1),(l1++[r])))
def Gh (most:Int)(s0_end:Int)(fL:List Token)(l1:List Mode):R (((List Token)×(List Mode)) ⊕ ((List Mode)×(List Token))):=
 (E8 fL s0_end).bind fun r=>
 if(l1.length+[r].length) * 24≤Ek then
 (E2 3 [44] (((fL.drop 1).drop 1).drop 1) s0_end).bind fun r1=>
 if r1 then
(if(((l1++[r]).length:Int)==most) then
((Bi 2 (((fL.drop 1).drop 1).drop 1) s0_end).bind fun _=>
 Gj s0_end fL l1 r)
else
(Gj s0_end fL l1 r))
else
(.ok (.inr (((l1++[r]),(((fL.drop 1).drop 1).drop 1))))) else .bad
def F9 (most:Int)(s0_l:List Token)(s0_end:Int)(l:List Volume):R ((List Mode)×(List Token)):=
 (loop (Cz fun fL l1=>Gh most s0_end fL l1) (s0_l,[])).bind (fun r=>.ok r)
def Es (s:Av)(s1_l:List Token)(s1_end:Int)(l:List Volume):R (Airport×(List Token)):=
 (F9 16 s1_l s1_end l).bind fun r=>
 .ok (({ Name:=s,Modes:=r.1 }:Airport),r.2)
def Fj (s0_end:Int)(fL:List Token)(l1:List Av)(r:Av):R (((List Token)×(List Av)) ⊕ ((List Av)×(List Token))):=
 (B5 [44] (fL.drop 1) s0_end).bind fun _=>
 .ok (.inl (((fL.drop 1).drop 1),(l1++[r])))
def Fi (most:Int)(s0_end:Int)(fL:List Token)(l1:List Av):R (((List Token)×(List Av)) ⊕ ((List Av)×(List Token))):=
 (Bz fL s0_end).bind fun r=>
 if(l1.length+[r].length) * 16≤Ek then
 (E2 3 [44] (fL.drop 1) s0_end).bind fun r1=>
 if r1 then
(if(((l1++[r]).length:Int)==most) then
((Bi 2 (fL.drop 1) s0_end).bind fun _=>
 Fj s0_end fL l1 r)
else
(Fj s0_end fL l1 r))
else
(.ok (.inr (((l1++[r]),(fL.drop 1))))) else .bad
def D1 (most:Int)(s0_l:List Token)(s0_end:Int)(l:List Volume):R ((List Av)×(List Token)):=
 (loop (Cz fun fL l1=>Fi most s0_end fL l1) (s0_l,[])).bind (fun r=>.ok r)
def Ep (s:Av)(s1_l:List Token)(s1_end:Int)(l:List Volume):R (Config×(List Token)):=
 (B5 [61] s1_l s1_end).bind fun _=>
 (D1 64 (s1_l.drop 1) s1_end l).bind fun r1=>
 .ok (({ Name:=s,Names:=r1.1,Sectors:=[] }:Config),r1.2)
def Er (s:Av)(s1_l:List Token)(s1_end:Int)(l:List Volume):R (Route×(List Token)):=
 (Ct [102,114,111,109] s1_l s1_end).bind fun _=>
 (Bz (s1_l.drop 1) s1_end).bind fun r1=>
 (Ct [116,111] ((s1_l.drop 1).drop 1) s1_end).bind fun _=>
 (Bz (((s1_l.drop 1).drop 1).drop 1) s1_end).bind fun r3=>
 (Ct [118,105,97] ((((s1_l.drop 1).drop 1).drop 1).drop 1) s1_end).bind fun _=>
 (D1 8 (((((s1_l.drop 1).drop 1).drop 1).drop 1).drop 1) s1_end l).bind fun r5=>
 .ok (({ Name:=s,A:=r1,B:=r3,From:=0,To:=0,Names:=r5.1,Segments:=[] }:Route),r5.2)
def Ev (s:Av)(s1_l:List Token)(s1_end:Int)(l:List Volume):R (Sector×(List Token)):=
 (B5 [61] s1_l s1_end).bind fun _=>
 (D1 64 (s1_l.drop 1) s1_end l).bind fun r1=>
 (Ct [114,97,100,97,114] r1.2 s1_end).bind fun _=>
 (C6 0 64 (r1.2.drop 1) s1_end).bind fun r3=>
 (Ct [112,114,111,99,101,100,117,114,97,108] ((r1.2.drop 1).drop 1) s1_end).bind fun _=>
 (C6 0 r3 (((r1.2.drop 1).drop 1).drop 1) s1_end).bind fun r5=>
 .ok (({ Name:=s,Names:=r1.1,Volumes:=[],Radar:=r3,Procedural:=r5 }:Sector),((((r1.2.drop 1).drop 1).drop 1).drop 1))
def Fq (s0_end:Int)(fL:List Token)(l1:List Span)(r:Span):R (((List Token)×(List Span)) ⊕ ((List Span)×(List Token))):=
 (B5 [44] (((fL.drop 1).drop 1).drop 1) s0_end).bind fun _=>
 .ok (.inl (((((fL.drop 1).drop 1).drop 1).drop 1),(l1++[r])))
def Fs (most:Int)(s0_end:Int)(fL:List Token)(l1:List Span):R (((List Token)×(List Span)) ⊕ ((List Span)×(List Token))):=
 (Gu fL s0_end).bind fun r=>
 if(l1.length+[r].length) * 16≤Ek then
 (E2 3 [44] (((fL.drop 1).drop 1).drop 1) s0_end).bind fun r1=>
 if r1 then
(if(((l1++[r]).length:Int)==most) then
((Bi 2 (((fL.drop 1).drop 1).drop 1) s0_end).bind fun _=>
 Fq s0_end fL l1 r)
else
(Fq s0_end fL l1 r))
else
(.ok (.inr (((l1++[r]),(((fL.drop 1).drop 1).drop 1))))) else .bad
def Eu (most:Int)(s0_l:List Token)(s0_end:Int)(l:List Volume):R ((List Span)×(List Token)):=
 (loop (Cz fun fL l1=>Fs most s0_end fL l1) (s0_l,[])).bind (fun r=>.ok r)
def F3 (text:Av)(s0_l:List Token)(s0_end:Int)(l:List Volume):R ((List Span)×(List Token)):=
 (E2 1 text s0_l s0_end).bind fun r=>
 if r then
((Ct text s0_l s0_end).bind fun _=>
 (Eu 16 (s0_l.drop 1) s0_end l).bind fun r2=>
 .ok (r2.1,r2.2))
else
(.ok ([],s0_l))
def En (s:Av)(s1_l:List Token)(s1_end:Int)(l:List Volume):R (Segment×(List Token)):=
 (Ct [105,110] s1_l s1_end).bind fun _=>
 (Bz (s1_l.drop 1) s1_end).bind fun r1=>
 (Ct [108,101,110,103,116,104] ((s1_l.drop 1).drop 1) s1_end).bind fun _=>
 (C6 1 4096 (((s1_l.drop 1).drop 1).drop 1) s1_end).bind fun r3=>
 (F3 [111,112,101,110] ((((s1_l.drop 1).drop 1).drop 1).drop 1) s1_end l).bind fun r4=>
 .ok (({ Name:=s,In:=r1,Volume:=0,Length:=r3,Open:=r4.1 }:Segment),r4.2)
def Eo (s:Av)(s1_l:List Token)(s1_end:Int)(l:List Volume):R (Volume×(List Token)):=
 (F3 [99,108,111,115,101,100] s1_l s1_end l).bind fun r=>
 .ok (({ Name:=s,Closed:=r.1 }:Volume),r.2)
def Gz (s0_l:List Token)(s0_end:Int)(l:List Volume):R ((List Token)×(List Volume)):=
 if(0:Int)≤1∧1≤(s0_l.length:Int) then
 (Bz (s0_l.drop 1) s0_end).bind fun r1=>
 (Eo r1 ((s0_l.drop 1).drop 1) s0_end l).bind fun r2=>
 (B5 [59] r2.2 s0_end).bind fun _=>
 if(l.length+[r2.1].length) * 40≤Ek then
 .ok ((r2.2.drop 1),(l++[r2.1])) else .bad else .bad
def Gn (most:Int)(s0_l:List Token)(s0_end:Int)(l:List Volume):R ((List Token)×(List Volume)):=
 if((l.length:Int)==most) then
((Bi 2 s0_l s0_end).bind fun _=>
 Gz s0_l s0_end l)
else
(Gz s0_l s0_end l)
def Hz (s0_l:List Token)(s0_end:Int)(l:List Volume):R ((List Token)×(List Volume)):=
 (Gn 64 s0_l s0_end l).bind fun r=>
 .ok (r.1,r.2)
def G0 (s0_l:List Token)(s0_end:Int)(l:List Volume)(l1:List Sector):R ((List Token)×(List Sector)):=
 if(0:Int)≤1∧1≤(s0_l.length:Int) then
 (Bz (s0_l.drop 1) s0_end).bind fun r1=>
 (Ev r1 ((s0_l.drop 1).drop 1) s0_end l).bind fun r2=>
 (B5 [59] r2.2 s0_end).bind fun _=>
 if(l1.length+[r2.1].length) * 80≤Ek then
 .ok ((r2.2.drop 1),(l1++[r2.1])) else .bad else .bad
def Gp (most:Int)(s0_l:List Token)(s0_end:Int)(l:List Volume)(l1:List Sector):R ((List Token)×(List Sector)):=
 if((l1.length:Int)==most) then
((Bi 2 s0_l s0_end).bind fun _=>
 G0 s0_l s0_end l l1)
else
(G0 s0_l s0_end l l1)
def Hw (s0_l:List Token)(s0_end:Int)(l:List Volume)(l1:List Sector):R ((List Token)×(List Sector)):=
 (Gp 64 s0_l s0_end l l1).bind fun r=>
 .ok (r.1,r.2)
def G1 (s0_l:List Token)(s0_end:Int)(l:List Volume)(l1:List Config):R ((List Token)×(List Config)):=
 if(0:Int)≤1∧1≤(s0_l.length:Int) then
 (Bz (s0_l.drop 1) s0_end).bind fun r1=>
 (Ep r1 ((s0_l.drop 1).drop 1) s0_end l).bind fun r2=>
 (B5 [59] r2.2 s0_end).bind fun _=>
 if(l1.length+[r2.1].length) * 64≤Ek then
 .ok ((r2.2.drop 1),(l1++[r2.1])) else .bad else .bad
def Gm (most:Int)(s0_l:List Token)(s0_end:Int)(l:List Volume)(l1:List Config):R ((List Token)×(List Config)):=
 if((l1.length:Int)==most) then
((Bi 2 s0_l s0_end).bind fun _=>
 G1 s0_l s0_end l l1)
else
(G1 s0_l s0_end l l1)
def H5 (s0_l:List Token)(s0_end:Int)(l:List Volume)(l1:List Config):R ((List Token)×(List Config)):=
 (Gm 32 s0_l s0_end l l1).bind fun r=>
 .ok (r.1,r.2)
def Gg (s0_l:List Token)(s0_end:Int)(l:List Volume)(l1:List Segment):R ((List Token)×(List Segment)):=
 if(0:Int)≤1∧1≤(s0_l.length:Int) then
 (Bz (s0_l.drop 1) s0_end).bind fun r1=>
 (En r1 ((s0_l.drop 1).drop 1) s0_end l).bind fun r2=>
 (B5 [59] r2.2 s0_end).bind fun _=>
 if(l1.length+[r2.1].length) * 72≤Ek then
 .ok ((r2.2.drop 1),(l1++[r2.1])) else .bad else .bad
def Ga (most:Int)(s0_l:List Token)(s0_end:Int)(l:List Volume)(l1:List Segment):R ((List Token)×(List Segment)):=
 if((l1.length:Int)==most) then
((Bi 2 s0_l s0_end).bind fun _=>
 Gg s0_l s0_end l l1)
else
(Gg s0_l s0_end l l1)
def H1 (s0_l:List Token)(s0_end:Int)(l:List Volume)(l1:List Segment):R ((List Token)×(List Segment)):=
 (Ga 128 s0_l s0_end l l1).bind fun r=>
 .ok (r.1,r.2)
def Ha (s0_l:List Token)(s0_end:Int)(l:List Volume)(l1:List Route):R ((List Token)×(List Route)):=
 if(0:Int)≤1∧1≤(s0_l.length:Int) then
 (Bz (s0_l.drop 1) s0_end).bind fun r1=>
 (Er r1 ((s0_l.drop 1).drop 1) s0_end l).bind fun r2=>
 (B5 [59] r2.2 s0_end).bind fun _=>
 if(l1.length+[r2.1].length) * 112≤Ek then
 .ok ((r2.2.drop 1),(l1++[r2.1])) else .bad else .bad
def G6 (most:Int)(s0_l:List Token)(s0_end:Int)(l:List Volume)(l1:List Route):R ((List Token)×(List Route)):=
 if((l1.length:Int)==most) then
((Bi 2 s0_l s0_end).bind fun _=>
 Ha s0_l s0_end l l1)
else
(Ha s0_l s0_end l l1)
def H8 (s0_l:List Token)(s0_end:Int)(l:List Volume)(l1:List Route):R ((List Token)×(List Route)):=
 (G6 64 s0_l s0_end l l1).bind fun r=>
 .ok (r.1,r.2)
def Gi (s0_l:List Token)(s0_end:Int)(l:List Volume)(l1:List Airport):R ((List Token)×(List Airport)):=
 if(0:Int)≤1∧1≤(s0_l.length:Int) then
 (Bz (s0_l.drop 1) s0_end).bind fun r1=>
 (Es r1 ((s0_l.drop 1).drop 1) s0_end l).bind fun r2=>
 (B5 [59] r2.2 s0_end).bind fun _=>
 if(l1.length+[r2.1].length) * 40≤Ek then
 .ok ((r2.2.drop 1),(l1++[r2.1])) else .bad else .bad
def Ge (most:Int)(s0_l:List Token)(s0_end:Int)(l:List Volume)(l1:List Airport):R ((List Token)×(List Airport)):=
 if((l1.length:Int)==most) then
((Bi 2 s0_l s0_end).bind fun _=>
 Gi s0_l s0_end l l1)
else
(Gi s0_l s0_end l l1)
def H7 (s0_l:List Token)(s0_end:Int)(l:List Volume)(l1:List Airport):R ((List Token)×(List Airport)):=
 (Ge 16 s0_l s0_end l l1).bind fun r=>
 .ok (r.1,r.2)
def G8 (s0_l:List Token)(s0_end:Int)(l:List Class):R (List Class):=
 if(0:Int)≤1∧1≤(s0_l.length:Int) then
 (Bz (s0_l.drop 1) s0_end).bind fun r1=>
 (E6 r1 ((s0_l.drop 1).drop 1) s0_end).bind fun r2=>
 (B5 [59] ((((((((s0_l.drop 1).drop 1).drop 1).drop 1).drop 1).drop 1).drop 1).drop 1) s0_end).bind fun _=>
 if(l.length+[r2].length) * 40≤Ek then
 .ok (l++[r2]) else .bad else .bad
def G3 (most:Int)(s0_l:List Token)(s0_end:Int)(l:List Class):R (List Class):=
 if((l.length:Int)==most) then
((Bi 2 s0_l s0_end).bind fun _=>
 G8 s0_l s0_end l)
else
(G8 s0_l s0_end l)
def H2 (s0_l:List Token)(s0_end:Int)(l:List Class):R (List Class):=
 (G3 8 s0_l s0_end l).bind fun r=>
 .ok r
def H0 (s0_l:List Token)(s0_end:Int)(l:List Rule)(s2:Int):R (List Rule):=
 if(0:Int)≤1∧1≤(s0_l.length:Int) then
 (Bz (s0_l.drop 1) s0_end).bind fun r1=>
 (Fc r1 s2 ((s0_l.drop 1).drop 1) s0_end).bind fun r2=>
 (B5 [59] (((((((s0_l.drop 1).drop 1).drop 1).drop 1).drop 1).drop 1).drop 1) s0_end).bind fun _=>
 if(l.length+[r2].length) * 80≤Ek then
 .ok (l++[r2]) else .bad else .bad
def Hu (most:Int)(s0_l:List Token)(s0_end:Int)(l:List Rule)(s2:Int):R (List Rule):=
 if((l.length:Int)==most) then
((Bi 2 s0_l s0_end).bind fun _=>
 H0 s0_l s0_end l s2)
else
(H0 s0_l s0_end l s2)
def Jw (kind:Int)(s0_l:List Token)(s0_end:Int)(l:List Rule):R (List Rule):=
 (Hu 64 s0_l s0_end l kind).bind fun r=>
 .ok r
def Hy (s0_l:List Token)(s0_end:Int)(l:List Rule):R (List Rule):=
 (Jw 1 s0_l s0_end l).bind fun r=>
 .ok r
def H4 (s0_l:List Token)(s0_end:Int)(l:List Rule)(s2:Int):R (List Rule):=
 if(0:Int)≤1∧1≤(s0_l.length:Int) then
 (Bz (s0_l.drop 1) s0_end).bind fun r1=>
 (Gc r1 s2).bind fun _=>
 (B5 [59] ((s0_l.drop 1).drop 1) s0_end).bind fun _=>
 if(l.length+[({ Kind:=s2,C:=r1,A:=[],Class:=0,Airport:=0,N:=0,Hours:=({ From:=0,To:=0 }:Span) }:Rule)].length) * 80≤Ek then
 .ok (l++[({ Kind:=s2,C:=r1,A:=[],Class:=0,Airport:=0,N:=0,Hours:=({ From:=0,To:=0 }:Span) }:Rule)]) else .bad else .bad
def Hi (most:Int)(s0_l:List Token)(s0_end:Int)(l:List Rule)(s2:Int):R (List Rule):=
 if((l.length:Int)==most) then
((Bi 2 s0_l s0_end).bind fun _=>
 H4 s0_l s0_end l s2)
else
(H4 s0_l s0_end l s2)
def J8 (kind:Int)(s0_l:List Token)(s0_end:Int)(l:List Rule):R (List Rule):=
 (Hi 64 s0_l s0_end l kind).bind fun r=>
 .ok r
def Hx (s0_l:List Token)(s0_end:Int)(l:List Rule):R (List Rule):=
 (J8 2 s0_l s0_end l).bind fun r=>
 .ok r
def Hv (s0_l:List Token)(s0_end:Int)(l:List Rule)(s2:Int):R (List Rule):=
 if(0:Int)≤1∧1≤(s0_l.length:Int) then
 (Bz (s0_l.drop 1) s0_end).bind fun r1=>
 (Fe r1 s2 ((s0_l.drop 1).drop 1) s0_end).bind fun r2=>
 (B5 [59] (((s0_l.drop 1).drop 1).drop 1) s0_end).bind fun _=>
 if(l.length+[r2].length) * 80≤Ek then
 .ok (l++[r2]) else .bad else .bad
def Hr (most:Int)(s0_l:List Token)(s0_end:Int)(l:List Rule)(s2:Int):R (List Rule):=
 if((l.length:Int)==most) then
((Bi 2 s0_l s0_end).bind fun _=>
 Hv s0_l s0_end l s2)
else
(Hv s0_l s0_end l s2)
def J5 (kind:Int)(s0_l:List Token)(s0_end:Int)(l:List Rule):R (List Rule):=
 (Hr 64 s0_l s0_end l kind).bind fun r=>
 .ok r
def G9 (s0_l:List Token)(s0_end:Int)(l:List Rule):R (List Rule):=
 (J5 4 s0_l s0_end l).bind fun r=>
 .ok r
def H3 (s0_l:List Token)(s0_end:Int)(l:List Rule)(s2:Int):R (List Rule):=
 if(0:Int)≤1∧1≤(s0_l.length:Int) then
 (Bz (s0_l.drop 1) s0_end).bind fun r1=>
 (Ff r1 s2 ((s0_l.drop 1).drop 1) s0_end).bind fun r2=>
 (B5 [59] (((s0_l.drop 1).drop 1).drop 1) s0_end).bind fun _=>
 if(l.length+[r2].length) * 80≤Ek then
 .ok (l++[r2]) else .bad else .bad
def Hn (most:Int)(s0_l:List Token)(s0_end:Int)(l:List Rule)(s2:Int):R (List Rule):=
 if((l.length:Int)==most) then
((Bi 2 s0_l s0_end).bind fun _=>
 H3 s0_l s0_end l s2)
else
(H3 s0_l s0_end l s2)
def Jz (kind:Int)(s0_l:List Token)(s0_end:Int)(l:List Rule):R (List Rule):=
 (Hn 64 s0_l s0_end l kind).bind fun r=>
 .ok r
def He (s0_l:List Token)(s0_end:Int)(l:List Rule):R (List Rule):=
 (Jz 3 s0_l s0_end l).bind fun r=>
 .ok r
def El (s0_l:List Token)(s0_end:Int)(l:List Volume)(l1:List Sector)(l2:List Config)(l3:List Segment)(l4:List Route)(l5:List Airport)(l6:List Class)(l7:List Rule):R ((List Token)×(List Volume)×(List Sector)×(List Config)×(List Segment)×(List Route)×(List Airport)×(List Class)×(List Rule)):=
 (Le ({ fL:=s0_l,fEnd:=s0_end,fA:=({ Volumes:=l,Sectors:=l1,Configs:=l2,Segments:=l3,Routes:=l4,Airports:=l5,Classes:=l6,Rules:=l7 }:Airspace) }:T67) 80).bind fun _=>
 .ok (s0_l,l,l1,l2,l3,l4,l5,l6,l7)
def E9 (s0_l:List Token)(s0_end:Int)(l:List Volume)(l1:List Sector)(l2:List Config)(l3:List Segment)(l4:List Route)(l5:List Airport)(l6:List Class)(l7:List Rule):R ((List Token)×(List Volume)×(List Sector)×(List Config)×(List Segment)×(List Route)×(List Airport)×(List Class)×(List Rule)):=
 (Ef s0_l 0).bind fun a=>
 if(a.Kind==1) then
(if(a.Text==[97,105,114,112,111,114,116]) then
((H7 s0_l s0_end l l5).bind fun r=>
 .ok (r.1,l,l1,l2,l3,l4,r.2,l6,l7))
else
(if(a.Text==[99,108,97,115,115]) then
((H2 s0_l s0_end l6).bind fun r1=>
 .ok ((((((((((s0_l.drop 1).drop 1).drop 1).drop 1).drop 1).drop 1).drop 1).drop 1).drop 1),l,l1,l2,l3,l4,l5,r1,l7))
else
(if(a.Text==[99,111,110,102,105,103]) then
((H5 s0_l s0_end l l2).bind fun r2=>
 .ok (r2.1,l,l1,r2.2,l3,l4,l5,l6,l7))
else
(if(a.Text==[99,117,114,102,101,119]) then
((Hy s0_l s0_end l7).bind fun r3=>
 .ok (((((((((s0_l.drop 1).drop 1).drop 1).drop 1).drop 1).drop 1).drop 1).drop 1),l,l1,l2,l3,l4,l5,l6,r3))
else
(if(a.Text==[101,120,101,109,112,116]) then
((Hx s0_l s0_end l7).bind fun r4=>
 .ok ((((s0_l.drop 1).drop 1).drop 1),l,l1,l2,l3,l4,l5,l6,r4))
else
(if(a.Text==[108,111,110,103,101,115,116]) then
((G9 s0_l s0_end l7).bind fun r5=>
 .ok (((((s0_l.drop 1).drop 1).drop 1).drop 1),l,l1,l2,l3,l4,l5,l6,r5))
else
(if(a.Text==[114,111,117,116,101]) then
((H8 s0_l s0_end l l4).bind fun r6=>
 .ok (r6.1,l,l1,l2,l3,r6.2,l5,l6,l7))
else
(if(a.Text==[115,101,99,116,111,114]) then
((Hw s0_l s0_end l l1).bind fun r7=>
 .ok (r7.1,l,r7.2,l2,l3,l4,l5,l6,l7))
else
(if(a.Text==[115,101,103,109,101,110,116]) then
((H1 s0_l s0_end l l3).bind fun r8=>
 .ok (r8.1,l,l1,l2,r8.2,l4,l5,l6,l7))
else
(if(a.Text==[118,111,108,117,109,101]) then
((Hz s0_l s0_end l).bind fun r9=>
 .ok (r9.1,r9.2,l1,l2,l3,l4,l5,l6,l7))
else
(if(a.Text==[119,101,105,103,104,116]) then
((He s0_l s0_end l7).bind fun r10=>
 .ok (((((s0_l.drop 1).drop 1).drop 1).drop 1),l,l1,l2,l3,l4,l5,l6,r10))
else
(El s0_l s0_end l l1 l2 l3 l4 l5 l6 l7))))))))))))
else
(El s0_l s0_end l l1 l2 l3 l4 l5 l6 l7)
def Fv (n:Int)(n2:Int):R (Int×Int):=
 .ok (n,n2)
def Iq (src:Av)(fL:List Token)(l:List Airport)(l1:List Class)(l2:List Config)(l3:List Rule)(l4:List Route)(l5:List Sector)(l6:List Segment)(l7:List Volume):R (((List Token)×(List Airport)×(List Class)×(List Config)×(List Rule)×(List Route)×(List Sector)×(List Segment)×(List Volume)) ⊕ ((List Token)×(List Airport)×(List Class)×(List Config)×(List Rule)×(List Route)×(List Sector)×(List Segment)×(List Volume))):=
 if(fL.length:Int) > 0 then
((E9 fL (src.length:Int) l7 l5 l2 l6 l4 l l1 l3).bind fun r1=>
 .ok (.inl (r1.1,r1.2.2.2.2.2.2.1,r1.2.2.2.2.2.2.2.1,r1.2.2.2.1,r1.2.2.2.2.2.2.2.2,r1.2.2.2.2.2.1,r1.2.2.1,r1.2.2.2.2.1,r1.2.1)))
else
(.ok (.inr ((fL,l,l1,l2,l3,l4,l5,l6,l7))))
def Ou (fL3:List Token)(l8:List Airport)(l9:List Class)(l10:List Config)(l11:List Rule)(l12:List Route)(l13:List Sector)(l14:List Segment)(l15:List Volume):R (Airspace×Int×Int):=
 .ok (({ Volumes:=l15,Sectors:=l13,Configs:=l10,Segments:=l14,Routes:=l12,Airports:=l8,Classes:=l9,Rules:=l11 }:Airspace),0,0)
def Pa (src:Av):R (Airspace×Int×Int):=
 ((V8 src).np).bind fun r=>
 if(r.2.2 != 0) then
(.ok (({ Volumes:=[],Sectors:=[],Configs:=[],Segments:=[],Routes:=[],Airports:=[],Classes:=[],Rules:=[] }:Airspace),r.2.1,r.2.2))
else
((loop (Yz fun fL l l1 l2 l3 l4 l5 l6 l7=>Iq src fL l l1 l2 l3 l4 l5 l6 l7) (r.1,[],[],[],[],[],[],[],[])).bind (Yz fun fL3 l8 l9 l10 l11 l12 l13 l14 l15=>Ou fL3 l8 l9 l10 l11 l12 l13 l14 l15))
def Gl (src:Av):R (Airspace×Int×Int):=
 (Pa src).catch' (Mv 64 .i64 .i64 (fun n n2=>(Fv n n2).bind fun p=>.ok (({ Volumes:=[],Sectors:=[],Configs:=[],Segments:=[],Routes:=[],Airports:=[],Classes:=[],Rules:=[] }:Airspace),p.1,p.2)) (fun _=>.bad))
def Gt (ok:Bool)(t:Token)(s0_bad:Bool)(l:List Token):R (List Token):=
 if(l.length+[t].length) * 40≤Ek then
 .ok (l++[t]) else .bad
def Cm (s:Av)(s0_bad:Bool)(l:List Token):R (Bool×(List Token)):=
 (R1 s).bind fun r=>
 (Gt r ({ Kind:=1,Text:=s,N:=0,At:=0 }:Token) s0_bad l).bind fun r1=>
 .ok ((s0_bad||(!r)),r1)
def J4 (a:Av)(fBad:Bool)(l2:List Token):R (Bool×(List Token)):=
 (Gt true ({ Kind:=1,Text:=a,N:=0,At:=0 }:Token) fBad l2).bind fun r=>
 .ok ((fBad||(!true)),r)
def Bv (l:List Av)(s0_bad:Bool)(l1:List Token):R (Bool×(List Token)):=
 (It (fun _ a=>Cz fun fBad l2=>J4 a fBad l2) 0 l (s0_bad,l1)).bind ((Cz fun fBad l2=>.ok (fBad,l2)))
def J3 (a:Av)(fBad:Bool)(l2:List Token):R (Bool×(List Token)):=
 (Gt true ({ Kind:=3,Text:=a,N:=0,At:=0 }:Token) fBad l2).bind fun r=>
 .ok ((fBad||(!true)),r)
def Co (l:List Av)(s0_bad:Bool)(l1:List Token):R (Bool×(List Token)):=
 (It (fun _ a=>Cz fun fBad l2=>J3 a fBad l2) 0 l (s0_bad,l1)).bind ((Cz fun fBad l2=>.ok (fBad,l2)))
def C1 (n:Int)(least:Int)(most:Int)(s0_bad:Bool)(l:List Token):R (List Token):=
 (Gt ((decide (n≥least))&&(decide (n≤most))) ({ Kind:=2,Text:=[],N:=n,At:=0 }:Token) s0_bad l).bind fun r=>
 .ok r
def Jf (s:Span)(s0_bad:Bool)(l:List Token):R (Bool×(List Token)):=
 (C1 s.From 0 1439 s0_bad l).bind fun r=>
 (Bv [[116,111]] (s0_bad||(!((decide (s.From≥0))&&(decide (s.From≤1439))))) r).bind fun r1=>
 (C1 s.To (IntKind.wrap .i64 (s.From+1)) 1440 r1.1 r1.2).bind fun r2=>
 .ok ((r1.1||(!((decide (s.To≥(IntKind.wrap .i64 (s.From+1))))&&(decide (s.To≤1440))))),r2)
def I3 (a:Span)(fBad1:Bool)(l3:List Token):R (Bool×(List Token)):=
 (Jf a fBad1 l3).bind fun r1=>
 .ok (r1.1,r1.2)
def I5 (j:Nat)(a:Span)(fBad:Bool)(l2:List Token):R (Bool×(List Token)):=
 if(j:Int) > 0 then
((Co [[44]] fBad l2).bind fun r=>
 I3 a r.1 r.2)
else
(I3 a fBad l2)
def Km (l:List Span)(most:Int)(s0_bad:Bool)(l1:List Token):R (Bool×(List Token)):=
 (It (fun j a=>Cz fun fBad l2=>I5 j a fBad l2) 0 l (((s0_bad||((l.length:Int)==0))||(decide ((l.length:Int) > most))),l1)).bind ((Cz fun fBad l2=>.ok (fBad,l2)))
def Jk (text:Av)(l:List Span)(s0_bad:Bool)(l1:List Token):R (Bool×(List Token)):=
 if(l.length:Int) > 0 then
((Bv [text] s0_bad l1).bind fun r=>
 (Km l 16 r.1 r.2).bind fun r1=>
 .ok (r1.1,r1.2))
else
(.ok (s0_bad,l1))
def Nf (a:Volume)(s1_bad:Bool)(l:List Token):R (Bool×(List Token)):=
 (Cm a.Name s1_bad l).bind fun r=>
 (Jk [99,108,111,115,101,100] a.Closed r.1 r.2).bind fun r1=>
 .ok (r1.1,r1.2)
def Il (a:Volume)(fBad1:Bool)(l2:List Token):R (Bool×(List Token)):=
 (Nf a fBad1 l2).bind fun r1=>
 (Co [[59]] r1.1 r1.2).bind fun r2=>
 .ok (r2.1,r2.2)
def Ip (text:Av)(a:Volume)(fBad:Bool)(l1:List Token):R (Bool×(List Token)):=
 if(text==[]) then
(Il a fBad l1)
else
((Bv [text] fBad l1).bind fun r=>
 Il a r.1 r.2)
def Jt (text:Av)(l:List Volume)(most:Int)(s0_bad:Bool):R (Bool×(List Token)):=
 (It (fun _ a=>Cz fun fBad l1=>Ip text a fBad l1) 0 l ((s0_bad||(decide ((l.length:Int) > most))),[])).bind ((Cz fun fBad l1=>.ok (fBad,l1)))
def If (a:Av)(fBad1:Bool)(l3:List Token):R (Bool×(List Token)):=
 (Cm a fBad1 l3).bind fun r1=>
 .ok (r1.1,r1.2)
def Ij (j:Nat)(a:Av)(fBad:Bool)(l2:List Token):R (Bool×(List Token)):=
 if(j:Int) > 0 then
((Co [[44]] fBad l2).bind fun r=>
 If a r.1 r.2)
else
(If a fBad l2)
def F1 (l:List Av)(most:Int)(s0_bad:Bool)(l1:List Token):R (Bool×(List Token)):=
 (It (fun j a=>Cz fun fBad l2=>Ij j a fBad l2) 0 l (((s0_bad||((l.length:Int)==0))||(decide ((l.length:Int) > most))),l1)).bind ((Cz fun fBad l2=>.ok (fBad,l2)))
def Nd (a:Sector)(s1_bad:Bool)(l:List Token):R (Bool×(List Token)):=
 (Cm a.Name s1_bad l).bind fun r=>
 (Co [[61]] r.1 r.2).bind fun r1=>
 (F1 a.Names 64 r1.1 r1.2).bind fun r2=>
 (Bv [[114,97,100,97,114]] r2.1 r2.2).bind fun r3=>
 (C1 a.Radar 0 64 r3.1 r3.2).bind fun r4=>
 (Bv [[112,114,111,99,101,100,117,114,97,108]] (r3.1||(!((decide (a.Radar≥0))&&(decide (a.Radar≤64))))) r4).bind fun r5=>
 (C1 a.Procedural 0 a.Radar r5.1 r5.2).bind fun r6=>
 .ok ((r5.1||(!((decide (a.Procedural≥0))&&(decide (a.Procedural≤a.Radar))))),r6)
def Ie (a:Sector)(fBad1:Bool)(l3:List Token):R (Bool×(List Token)):=
 (Nd a fBad1 l3).bind fun r1=>
 (Co [[59]] r1.1 r1.2).bind fun r2=>
 .ok (r2.1,r2.2)
def Im (text:Av)(a:Sector)(fBad:Bool)(l2:List Token):R (Bool×(List Token)):=
 if(text==[]) then
(Ie a fBad l2)
else
((Bv [text] fBad l2).bind fun r=>
 Ie a r.1 r.2)
def J0 (text:Av)(l:List Sector)(most:Int)(s0_bad:Bool)(l1:List Token):R (Bool×(List Token)):=
 (It (fun _ a=>Cz fun fBad l2=>Im text a fBad l2) 0 l ((s0_bad||(decide ((l.length:Int) > most))),l1)).bind ((Cz fun fBad l2=>.ok (fBad,l2)))
def Nm (a:Config)(s1_bad:Bool)(l:List Token):R (Bool×(List Token)):=
 (Cm a.Name s1_bad l).bind fun r=>
 (Co [[61]] r.1 r.2).bind fun r1=>
 (F1 a.Names 64 r1.1 r1.2).bind fun r2=>
 .ok (r2.1,r2.2)
def Ih (a:Config)(fBad1:Bool)(l3:List Token):R (Bool×(List Token)):=
 (Nm a fBad1 l3).bind fun r1=>
 (Co [[59]] r1.1 r1.2).bind fun r2=>
 .ok (r2.1,r2.2)
def Io (text:Av)(a:Config)(fBad:Bool)(l2:List Token):R (Bool×(List Token)):=
 if(text==[]) then
(Ih a fBad l2)
else
((Bv [text] fBad l2).bind fun r=>
 Ih a r.1 r.2)
def Jr (text:Av)(l:List Config)(most:Int)(s0_bad:Bool)(l1:List Token):R (Bool×(List Token)):=
 (It (fun _ a=>Cz fun fBad l2=>Io text a fBad l2) 0 l ((s0_bad||(decide ((l.length:Int) > most))),l1)).bind ((Cz fun fBad l2=>.ok (fBad,l2)))
def Nj (a:Segment)(s1_bad:Bool)(l:List Token):R (Bool×(List Token)):=
 (Cm a.Name s1_bad l).bind fun r=>
 (Bv [[105,110]] r.1 r.2).bind fun r1=>
 (Cm a.In r1.1 r1.2).bind fun r2=>
 (Bv [[108,101,110,103,116,104]] r2.1 r2.2).bind fun r3=>
 (C1 a.Length 1 4096 r3.1 r3.2).bind fun r4=>
 (Jk [111,112,101,110] a.Open (r3.1||(!((decide (a.Length≥1))&&(decide (a.Length≤4096))))) r4).bind fun r5=>
 .ok (r5.1,r5.2)
def Hq (a:Segment)(fBad1:Bool)(l3:List Token):R (Bool×(List Token)):=
 (Nj a fBad1 l3).bind fun r1=>
 (Co [[59]] r1.1 r1.2).bind fun r2=>
 .ok (r2.1,r2.2)
def Hh (text:Av)(a:Segment)(fBad:Bool)(l2:List Token):R (Bool×(List Token)):=
 if(text==[]) then
(Hq a fBad l2)
else
((Bv [text] fBad l2).bind fun r=>
 Hq a r.1 r.2)
def Jp (text:Av)(l:List Segment)(most:Int)(s0_bad:Bool)(l1:List Token):R (Bool×(List Token)):=
 (It (fun _ a=>Cz fun fBad l2=>Hh text a fBad l2) 0 l ((s0_bad||(decide ((l.length:Int) > most))),l1)).bind ((Cz fun fBad l2=>.ok (fBad,l2)))
def Nh (a:Route)(s1_bad:Bool)(l:List Token):R (Bool×(List Token)):=
 (Cm a.Name s1_bad l).bind fun r=>
 (Bv [[102,114,111,109]] r.1 r.2).bind fun r1=>
 (Cm a.A r1.1 r1.2).bind fun r2=>
 (Bv [[116,111]] r2.1 r2.2).bind fun r3=>
 (Cm a.B r3.1 r3.2).bind fun r4=>
 (Bv [[118,105,97]] r4.1 r4.2).bind fun r5=>
 (F1 a.Names 8 r5.1 r5.2).bind fun r6=>
 .ok (r6.1,r6.2)
def Iy (a:Route)(fBad1:Bool)(l3:List Token):R (Bool×(List Token)):=
 (Nh a fBad1 l3).bind fun r1=>
 (Co [[59]] r1.1 r1.2).bind fun r2=>
 .ok (r2.1,r2.2)
def I0 (text:Av)(a:Route)(fBad:Bool)(l2:List Token):R (Bool×(List Token)):=
 if(text==[]) then
(Iy a fBad l2)
else
((Bv [text] fBad l2).bind fun r=>
 Iy a r.1 r.2)
def Kl (text:Av)(l:List Route)(most:Int)(s0_bad:Bool)(l1:List Token):R (Bool×(List Token)):=
 (It (fun _ a=>Cz fun fBad l2=>I0 text a fBad l2) 0 l ((s0_bad||(decide ((l.length:Int) > most))),l1)).bind ((Cz fun fBad l2=>.ok (fBad,l2)))
def L5 (m:Mode)(s1_bad:Bool)(l:List Token):R (Bool×(List Token)):=
 (Bv [[109,111,100,101]] s1_bad l).bind fun r=>
 (Cm m.Name r.1 r.2).bind fun r1=>
 (C1 m.Places 0 64 r1.1 r1.2).bind fun r2=>
 .ok ((r1.1||(!((decide (m.Places≥0))&&(decide (m.Places≤64))))),r2)
def Kk (a:Mode)(fBad1:Bool)(l3:List Token):R (Bool×(List Token)):=
 (L5 a fBad1 l3).bind fun r1=>
 .ok (r1.1,r1.2)
def Kg (j:Nat)(a:Mode)(fBad:Bool)(l2:List Token):R (Bool×(List Token)):=
 if(j:Int) > 0 then
((Co [[44]] fBad l2).bind fun r=>
 Kk a r.1 r.2)
else
(Kk a fBad l2)
def L8 (l:List Mode)(most:Int)(s0_bad:Bool)(l1:List Token):R (Bool×(List Token)):=
 (It (fun j a=>Cz fun fBad l2=>Kg j a fBad l2) 0 l (((s0_bad||((l.length:Int)==0))||(decide ((l.length:Int) > most))),l1)).bind ((Cz fun fBad l2=>.ok (fBad,l2)))
def Ng (a:Airport)(s1_bad:Bool)(l:List Token):R (Bool×(List Token)):=
 (Cm a.Name s1_bad l).bind fun r=>
 (L8 a.Modes 16 r.1 r.2).bind fun r1=>
 .ok (r1.1,r1.2)
def Hs (a:Airport)(fBad1:Bool)(l3:List Token):R (Bool×(List Token)):=
 (Ng a fBad1 l3).bind fun r1=>
 (Co [[59]] r1.1 r1.2).bind fun r2=>
 .ok (r2.1,r2.2)
def Hm (text:Av)(a:Airport)(fBad:Bool)(l2:List Token):R (Bool×(List Token)):=
 if(text==[]) then
(Hs a fBad l2)
else
((Bv [text] fBad l2).bind fun r=>
 Hs a r.1 r.2)
def Jo (text:Av)(l:List Airport)(most:Int)(s0_bad:Bool)(l1:List Token):R (Bool×(List Token)):=
 (It (fun _ a=>Cz fun fBad l2=>Hm text a fBad l2) 0 l ((s0_bad||(decide ((l.length:Int) > most))),l1)).bind ((Cz fun fBad l2=>.ok (fBad,l2)))
def Ni (a:Class)(s1_bad:Bool)(l:List Token):R (Bool×(List Token)):=
 (Cm a.Name s1_bad l).bind fun r=>
 (Bv [[115,108,111,119]] r.1 r.2).bind fun r1=>
 (C1 a.Slow 1 64 r1.1 r1.2).bind fun r2=>
 (Bv [[102,97,115,116]] (r1.1||(!((decide (a.Slow≥1))&&(decide (a.Slow≤64))))) r2).bind fun r3=>
 (C1 a.Fast a.Slow 64 r3.1 r3.2).bind fun r4=>
 (Bv [[112,108,97,99,101,115]] (r3.1||(!((decide (a.Fast≥a.Slow))&&(decide (a.Fast≤64))))) r4).bind fun r5=>
 (C1 a.Places 1 8 r5.1 r5.2).bind fun r6=>
 .ok ((r5.1||(!((decide (a.Places≥1))&&(decide (a.Places≤8))))),r6)
def I1 (a:Class)(fBad1:Bool)(l3:List Token):R (Bool×(List Token)):=
 (Ni a fBad1 l3).bind fun r1=>
 (Co [[59]] r1.1 r1.2).bind fun r2=>
 .ok (r2.1,r2.2)
def Iz (text:Av)(a:Class)(fBad:Bool)(l2:List Token):R (Bool×(List Token)):=
 if(text==[]) then
(I1 a fBad l2)
else
((Bv [text] fBad l2).bind fun r=>
 I1 a r.1 r.2)
def Kn (text:Av)(l:List Class)(most:Int)(s0_bad:Bool)(l1:List Token):R (Bool×(List Token)):=
 (It (fun _ a=>Cz fun fBad l2=>Iz text a fBad l2) 0 l ((s0_bad||(decide ((l.length:Int) > most))),l1)).bind ((Cz fun fBad l2=>.ok (fBad,l2)))
def Fd (text:Av)(s1_bad:Bool)(l:List Token)(s3:Rule):R (Bool×(List Token)):=
 (Bv [text] s1_bad l).bind fun r=>
 (Cm s3.C r.1 r.2).bind fun r1=>
 .ok (r1.1,r1.2)
def Ew (b:Rule)(fBad:Bool)(l1:List Token)(o:Rule):R (Bool×(List Token)):=
 if fBad then
(.ok (true,l1))
else
(.ok ((!((b.Kind==o.Kind)&&((b.C==o.C)&&((b.A==o.A)&&((0==o.Class)&&((0==o.Airport)&&((b.N==o.N)&&((b.Hours.From==o.Hours.From)&&(b.Hours.To==o.Hours.To))))))))),l1))
def L7 (b:Rule)(s0_bad:Bool)(l:List Token):R (Bool×(List Token)):=
 if(b.Kind==1) then
((Fd [99,117,114,102,101,119] s0_bad l b).bind fun r=>
 (Bv [[97,116]] r.1 r.2).bind fun r1=>
 (Cm b.A r1.1 r1.2).bind fun r2=>
 (Jf b.Hours r2.1 r2.2).bind fun r3=>
 Ew b r3.1 r3.2 ({ Kind:=b.Kind,C:=b.C,A:=b.A,Class:=0,Airport:=0,N:=0,Hours:=b.Hours }:Rule))
else
(if(b.Kind==2) then
((Fd [101,120,101,109,112,116] s0_bad l b).bind fun r4=>
 Ew b r4.1 r4.2 ({ Kind:=b.Kind,C:=b.C,A:=[],Class:=0,Airport:=0,N:=0,Hours:=({ From:=0,To:=0 }:Span) }:Rule))
else
(if(b.Kind==3) then
((Fd [119,101,105,103,104,116] s0_bad l b).bind fun r5=>
 (C1 b.N 1 8 r5.1 r5.2).bind fun r6=>
 Ew b (r5.1||(!((decide (b.N≥1))&&(decide (b.N≤8))))) r6 ({ Kind:=b.Kind,C:=b.C,A:=[],Class:=0,Airport:=0,N:=b.N,Hours:=({ From:=0,To:=0 }:Span) }:Rule))
else
(if(b.Kind==4) then
((Fd [108,111,110,103,101,115,116] s0_bad l b).bind fun r7=>
 (C1 b.N 0 60 r7.1 r7.2).bind fun r8=>
 if(r7.1||(!((decide (b.N≥0))&&(decide (b.N≤60))))) then
(Ew b true r8 ({ Kind:=b.Kind,C:=b.C,A:=[],Class:=0,Airport:=0,N:=b.N,Hours:=({ From:=0,To:=0 }:Span) }:Rule))
else
(Ew b ((Int.tmod b.N 10) != 0) r8 ({ Kind:=b.Kind,C:=b.C,A:=[],Class:=0,Airport:=0,N:=b.N,Hours:=({ From:=0,To:=0 }:Span) }:Rule)))
else
(Ew b true l ({ Kind:=b.Kind,C:=b.C,A:=[],Class:=0,Airport:=0,N:=0,Hours:=({ From:=0,To:=0 }:Span) }:Rule)))))
def Ir (a:Rule)(fBad1:Bool)(l3:List Token):R (Bool×(List Token)):=
 (L7 a fBad1 l3).bind fun r1=>
 (Co [[59]] r1.1 r1.2).bind fun r2=>
 .ok (r2.1,r2.2)
def Ig (text:Av)(a:Rule)(fBad:Bool)(l2:List Token):R (Bool×(List Token)):=
 if(text==[]) then
(Ir a fBad l2)
else
((Bv [text] fBad l2).bind fun r=>
 Ir a r.1 r.2)
def Jx (text:Av)(l:List Rule)(most:Int)(s0_bad:Bool)(l1:List Token):R (Bool×(List Token)):=
 (It (fun _ a=>Cz fun fBad l2=>Ig text a fBad l2) 0 l ((s0_bad||(decide ((l.length:Int) > most))),l1)).bind ((Cz fun fBad l2=>.ok (fBad,l2)))
def strings_Join (l:List Av)(sep:Av):R Av:=if(Lib.join l sep).length≤140737488355328 then .ok (Lib.join l sep) else .bad
def R2 (j:Nat)(a:Token)(words:List Av):R ((List Av) ⊕ (Av×Int)):=
 (Qi a).bind fun r=>
 if r then
(if(a.Kind==2) then
((strconv_Itoa a.N).bind fun r1=>
 (Ef words (j:Int)).bind fun a1=>
 .ok (.inl (words.set (j:Int).toNat r1)))
else
((Ef words (j:Int)).bind fun a2=>
 .ok (.inl (words.set (j:Int).toNat a.Text))))
else
(.ok (.inr (([],70))))
def Y9 (l:List Token):R (Av×Int):=
 if(0:Int)≤(l.length:Int)∧((l.length:Int):Int)≤(l.length:Int)∧(Int.toNat (l.length:Int)) * 16≤Ek then
 (each (fun j a=>fun words=>R2 j a words) 0 l (List.replicate (Int.toNat (l.length:Int)) [])).bind (Ds (fun words=>(strings_Join words [32]).bind fun src=>
 .ok (src,0)) (fun r=>.ok r)) else .bad
def O3 (a:Airspace):R (Av×Int):=
 (Jt [118,111,108,117,109,101] a.Volumes 64 false).bind fun r=>
 (J0 [115,101,99,116,111,114] a.Sectors 64 r.1 r.2).bind fun r1=>
 (Jr [99,111,110,102,105,103] a.Configs 32 r1.1 r1.2).bind fun r2=>
 (Jp [115,101,103,109,101,110,116] a.Segments 128 r2.1 r2.2).bind fun r3=>
 (Kl [114,111,117,116,101] a.Routes 64 r3.1 r3.2).bind fun r4=>
 (Jo [97,105,114,112,111,114,116] a.Airports 16 r4.1 r4.2).bind fun r5=>
 (Kn [99,108,97,115,115] a.Classes 8 r5.1 r5.2).bind fun r6=>
 (Jx [] a.Rules 64 r6.1 r6.2).bind fun r7=>
 if r7.1 then
(.ok ([],80))
else
((Y9 r7.2).bind fun r8=>
 .ok (r8.1,r8.2))
def M5 (b:List Span)(j:Nat)(a1:Span):R (Unit ⊕ Bool):=
 (Ef b (j:Int)).bind fun a2=>
 if((a1.From==a2.From)&&(a1.To==a2.To)) then
(.ok (.inl ()))
else
(.ok (.inr (false)))
def Oo (a:List Span)(b:List Span):R Bool:=
 if((a.length:Int) != (b.length:Int)) then
(.ok false)
else
((each (fun j a1=>fun _=>M5 b j a1) 0 a ()).bind (Ds (fun _=>.ok true) (fun r=>.ok r)))
def Mw (b:List Av)(j:Nat)(a1:Av):R (Unit ⊕ Bool):=
 (Ef b (j:Int)).bind fun a2=>
 if(a1==a2) then
(.ok (.inl ()))
else
(.ok (.inr (false)))
def Ms (a:List Av)(b:List Av):R Bool:=
 if((a.length:Int) != (b.length:Int)) then
(.ok false)
else
((each (fun j a1=>fun _=>Mw b j a1) 0 a ()).bind (Ds (fun _=>.ok true) (fun r=>.ok r)))
def Nn (b:List Int)(j:Nat)(a1:Int):R (Unit ⊕ Bool):=
 (Ef b (j:Int)).bind fun a2=>
 if(a1 != a2) then
(.ok (.inr (false)))
else
(.ok (.inl ()))
def Jh (a:List Int)(b:List Int):R Bool:=
 if((a.length:Int) != (b.length:Int)) then
(.ok false)
else
((each (fun j a1=>fun _=>Nn b j a1) 0 a ()).bind (Ds (fun _=>.ok true) (fun r=>.ok r)))
def Pz (x1:Bool):R (Unit ⊕ Bool):=
 if x1 then
(.ok (.inr (false)))
else
(.ok (.inl ()))
def Py (b:Airspace)(j:Nat)(a1:Volume):R (Unit ⊕ Bool):=
 (Ef b.Volumes (j:Int)).bind fun a2=>
 if(!(a1.Name==a2.Name)) then
(Pz true)
else
((Oo a1.Closed a2.Closed).bind fun r=>
 Pz (!r))
def Oe (b:Airspace)(j1:Nat)(a3:Sector):R (Unit ⊕ Bool):=
 (Ef b.Sectors (j1:Int)).bind fun a4=>
 (if(!(a3.Name==a4.Name)) then R.ok true else(Ms a3.Names a4.Names).bind fun r1=>
 R.ok (!r1)).bind (fun(b1:Bool)=>(if b1 then R.ok true else(Jh a3.Volumes a4.Volumes).bind fun r2=>
 R.ok (!r2)).bind (fun(b2:Bool)=>if((b2||(a3.Radar != a4.Radar))||(a3.Procedural != a4.Procedural)) then
(.ok (.inr (false)))
else
(.ok (.inl ()))))
def Mp (b:Airspace)(j2:Nat)(a5:Config):R (Unit ⊕ Bool):=
 (Ef b.Configs (j2:Int)).bind fun a6=>
 (if(!(a5.Name==a6.Name)) then R.ok true else(Ms a5.Names a6.Names).bind fun r3=>
 R.ok (!r3)).bind (fun(b3:Bool)=>(if b3 then R.ok true else(Jh a5.Sectors a6.Sectors).bind fun r4=>
 R.ok (!r4)).bind (fun(b4:Bool)=>if b4 then
(.ok (.inr (false)))
else
(.ok (.inl ()))))
def Ls (b:Airspace)(j3:Nat)(a7:Segment):R (Unit ⊕ Bool):=
 (Ef b.Segments (j3:Int)).bind fun a8=>
 (if((((!(a7.Name==a8.Name))||(!(a7.In==a8.In)))||(a7.Volume != a8.Volume))||(a7.Length != a8.Length)) then R.ok true else(Oo a7.Open a8.Open).bind fun r5=>
 R.ok (!r5)).bind (fun(b5:Bool)=>if b5 then
(.ok (.inr (false)))
else
(.ok (.inl ())))
def Kb (b:Airspace)(j4:Nat)(a9:Route):R (Unit ⊕ Bool):=
 (Ef b.Routes (j4:Int)).bind fun a10=>
 (if(((((!(a9.Name==a10.Name))||(!(a9.A==a10.A)))||(!(a9.B==a10.B)))||(a9.From != a10.From))||(a9.To != a10.To)) then R.ok true else(Ms a9.Names a10.Names).bind fun r6=>
 R.ok (!r6)).bind (fun(b6:Bool)=>(if b6 then R.ok true else(Jh a9.Segments a10.Segments).bind fun r7=>
 R.ok (!r7)).bind (fun(b7:Bool)=>if b7 then
(.ok (.inr (false)))
else
(.ok (.inl ()))))
def Px (a12:Airport)(j6:Nat)(a13:Mode):R (Unit ⊕ Bool):=
 (Ef a12.Modes (j6:Int)).bind fun a14=>
 if((a13.Name==a14.Name)&&(a13.Places==a14.Places)) then
(.ok (.inl ()))
else
(.ok (.inr (false)))
def I4 (b:Airspace)(j5:Nat)(a11:Airport):R (Unit ⊕ Bool):=
 (Ef b.Airports (j5:Int)).bind fun a12=>
 if((!(a11.Name==a12.Name))||((a11.Modes.length:Int) != (a12.Modes.length:Int))) then
(.ok (.inr (false)))
else
((each (fun j6 a13=>fun _=>Px a12 j6 a13) 0 a11.Modes ()).bind (Ds (fun _=>.ok (.inl ())) (fun r=>.ok (.inr (r)))))
def Hf (b:Airspace)(j7:Nat)(a15:Class):R (Unit ⊕ Bool):=
 (Ef b.Classes (j7:Int)).bind fun a16=>
 if((a15.Name==a16.Name)&&((a15.Slow==a16.Slow)&&((a15.Fast==a16.Fast)&&(a15.Places==a16.Places)))) then
(.ok (.inl ()))
else
(.ok (.inr (false)))
def Gk (b:Airspace)(j8:Nat)(a17:Rule):R (Unit ⊕ Bool):=
 (Ef b.Rules (j8:Int)).bind fun a18=>
 if((a17.Kind==a18.Kind)&&((a17.C==a18.C)&&((a17.A==a18.A)&&((a17.Class==a18.Class)&&((a17.Airport==a18.Airport)&&((a17.N==a18.N)&&((a17.Hours.From==a18.Hours.From)&&(a17.Hours.To==a18.Hours.To)))))))) then
(.ok (.inl ()))
else
(.ok (.inr (false)))
def Tu (a:Airspace)(b:Airspace):R Bool:=
 if(((((((((a.Volumes.length:Int) != (b.Volumes.length:Int))||((a.Sectors.length:Int) != (b.Sectors.length:Int)))||((a.Configs.length:Int) != (b.Configs.length:Int)))||((a.Segments.length:Int) != (b.Segments.length:Int)))||((a.Routes.length:Int) != (b.Routes.length:Int)))||((a.Airports.length:Int) != (b.Airports.length:Int)))||((a.Classes.length:Int) != (b.Classes.length:Int)))||((a.Rules.length:Int) != (b.Rules.length:Int))) then
(.ok false)
else
((each (fun j a1=>fun _=>Py b j a1) 0 a.Volumes ()).bind (Ds (fun _=>(each (fun j1 a3=>fun _=>Oe b j1 a3) 0 a.Sectors ()).bind (Ds (fun _=>(each (fun j2 a5=>fun _=>Mp b j2 a5) 0 a.Configs ()).bind (Ds (fun _=>(each (fun j3 a7=>fun _=>Ls b j3 a7) 0 a.Segments ()).bind (Ds (fun _=>(each (fun j4 a9=>fun _=>Kb b j4 a9) 0 a.Routes ()).bind (Ds (fun _=>(each (fun j5 a11=>fun _=>I4 b j5 a11) 0 a.Airports ()).bind (Ds (fun _=>(each (fun j7 a15=>fun _=>Hf b j7 a15) 0 a.Classes ()).bind (Ds (fun _=>(each (fun j8 a17=>fun _=>Gk b j8 a17) 0 a.Rules ()).bind (Ds (fun _=>.ok true) (fun r=>.ok r))) (fun r=>.ok r))) (fun r=>.ok r))) (fun r=>.ok r))) (fun r=>.ok r))) (fun r=>.ok r))) (fun r=>.ok r))) (fun r=>.ok r)))
def L4 (s2:List Span)(j:Nat)(a:Span):R (Unit ⊕ Bool):=
 (Ef s2 (j:Int)).bind fun a1=>
 if((a.From==a1.From)&&(a.To==a1.To)) then
(.ok (.inl ()))
else
(.ok (.inr (false)))
def Nc (s1:List Span)(s2:List Span):R Bool:=
 if((s1.length:Int) != (s2.length:Int)) then
(.ok false)
else
((each (fun j a=>fun _=>L4 s2 j a) 0 s1 ()).bind (Ds (fun _=>.ok true) (fun r=>.ok r)))
def Rl (a:Volume)(y:Volume):R Bool:=
 (if(a.Name==y.Name) then(Nc a.Closed y.Closed).bind fun r=>
 R.ok r else R.ok false).bind (fun(b:Bool)=>.ok b)
def Dm (s2:List Volume)(j:Nat)(a:Volume):R (Unit ⊕ Bool):=
 (Ef s2 (j:Int)).bind fun a1=>
 (Rl a a1).bind fun r=>
 if r then
(.ok (.inl ()))
else
(.ok (.inr (false)))
def Et (s1:List Volume)(s2:List Volume):R Bool:=
 if((s1.length:Int) != (s2.length:Int)) then
(.ok false)
else
((each (fun j a=>fun _=>Dm s2 j a) 0 s1 ()).bind (Ds (fun _=>.ok true) (fun r=>.ok r)))
def K0 (s2:List Av)(j:Nat)(a:Av):R (Unit ⊕ Bool):=
 (Ef s2 (j:Int)).bind fun a1=>
 if(a==a1) then
(.ok (.inl ()))
else
(.ok (.inr (false)))
def Kq (s1:List Av)(s2:List Av):R Bool:=
 if((s1.length:Int) != (s2.length:Int)) then
(.ok false)
else
((each (fun j a=>fun _=>K0 s2 j a) 0 s1 ()).bind (Ds (fun _=>.ok true) (fun r=>.ok r)))
def Mj (s2:List Int)(j:Nat)(a:Int):R (Unit ⊕ Bool):=
 (Ef s2 (j:Int)).bind fun a1=>
 if(a != a1) then
(.ok (.inr (false)))
else
(.ok (.inl ()))
def Hb (s1:List Int)(s2:List Int):R Bool:=
 if((s1.length:Int) != (s2.length:Int)) then
(.ok false)
else
((each (fun j a=>fun _=>Mj s2 j a) 0 s1 ()).bind (Ds (fun _=>.ok true) (fun r=>.ok r)))
def Rx (a:Sector)(y:Sector):R Bool:=
 (if(a.Name==y.Name) then(Kq a.Names y.Names).bind fun r=>
 R.ok r else R.ok false).bind (fun(b:Bool)=>(if b then(Hb a.Volumes y.Volumes).bind fun r1=>
 R.ok r1 else R.ok false).bind (fun(b1:Bool)=>.ok ((b1&&(a.Radar==y.Radar))&&(a.Procedural==y.Procedural))))
def Dn (s2:List Sector)(j:Nat)(a:Sector):R (Unit ⊕ Bool):=
 (Ef s2 (j:Int)).bind fun a1=>
 (Rx a a1).bind fun r=>
 if r then
(.ok (.inl ()))
else
(.ok (.inr (false)))
def Em (s1:List Sector)(s2:List Sector):R Bool:=
 if((s1.length:Int) != (s2.length:Int)) then
(.ok false)
else
((each (fun j a=>fun _=>Dn s2 j a) 0 s1 ()).bind (Ds (fun _=>.ok true) (fun r=>.ok r)))
def Ru (a:Config)(y:Config):R Bool:=
 (if(a.Name==y.Name) then(Kq a.Names y.Names).bind fun r=>
 R.ok r else R.ok false).bind (fun(b:Bool)=>(if b then(Hb a.Sectors y.Sectors).bind fun r1=>
 R.ok r1 else R.ok false).bind (fun(b1:Bool)=>.ok b1))
def Do (s2:List Config)(j:Nat)(a:Config):R (Unit ⊕ Bool):=
 (Ef s2 (j:Int)).bind fun a1=>
 (Ru a a1).bind fun r=>
 if r then
(.ok (.inl ()))
else
(.ok (.inr (false)))
def Du (s1:List Config)(s2:List Config):R Bool:=
 if((s1.length:Int) != (s2.length:Int)) then
(.ok false)
else
((each (fun j a=>fun _=>Do s2 j a) 0 s1 ()).bind (Ds (fun _=>.ok true) (fun r=>.ok r)))
def Rw (a:Segment)(y:Segment):R Bool:=
 (if((((a.Name==y.Name)&&(a.In==y.In))&&(a.Volume==y.Volume))&&(a.Length==y.Length)) then(Nc a.Open y.Open).bind fun r=>
 R.ok r else R.ok false).bind (fun(b:Bool)=>.ok b)
def Dd (s2:List Segment)(j:Nat)(a:Segment):R (Unit ⊕ Bool):=
 (Ef s2 (j:Int)).bind fun a1=>
 (Rw a a1).bind fun r=>
 if r then
(.ok (.inl ()))
else
(.ok (.inr (false)))
def C0 (s1:List Segment)(s2:List Segment):R Bool:=
 if((s1.length:Int) != (s2.length:Int)) then
(.ok false)
else
((each (fun j a=>fun _=>Dd s2 j a) 0 s1 ()).bind (Ds (fun _=>.ok true) (fun r=>.ok r)))
def Rz (a:Route)(y:Route):R Bool:=
 (if(((((a.Name==y.Name)&&(a.A==y.A))&&(a.B==y.B))&&(a.From==y.From))&&(a.To==y.To)) then(Kq a.Names y.Names).bind fun r=>
 R.ok r else R.ok false).bind (fun(b:Bool)=>(if b then(Hb a.Segments y.Segments).bind fun r1=>
 R.ok r1 else R.ok false).bind (fun(b1:Bool)=>.ok b1))
def Dt (s2:List Route)(j:Nat)(a:Route):R (Unit ⊕ Bool):=
 (Ef s2 (j:Int)).bind fun a1=>
 (Rz a a1).bind fun r=>
 if r then
(.ok (.inl ()))
else
(.ok (.inr (false)))
def Cs (s1:List Route)(s2:List Route):R Bool:=
 if((s1.length:Int) != (s2.length:Int)) then
(.ok false)
else
((each (fun j a=>fun _=>Dt s2 j a) 0 s1 ()).bind (Ds (fun _=>.ok true) (fun r=>.ok r)))
def L1 (s2:List Mode)(j:Nat)(a:Mode):R (Unit ⊕ Bool):=
 (Ef s2 (j:Int)).bind fun a1=>
 if((a.Name==a1.Name)&&(a.Places==a1.Places)) then
(.ok (.inl ()))
else
(.ok (.inr (false)))
def Pn (s1:List Mode)(s2:List Mode):R Bool:=
 if((s1.length:Int) != (s2.length:Int)) then
(.ok false)
else
((each (fun j a=>fun _=>L1 s2 j a) 0 s1 ()).bind (Ds (fun _=>.ok true) (fun r=>.ok r)))
def Rp (a:Airport)(y:Airport):R Bool:=
 (if(a.Name==y.Name) then(Pn a.Modes y.Modes).bind fun r=>
 R.ok r else R.ok false).bind (fun(b:Bool)=>.ok b)
def Dc (s2:List Airport)(j:Nat)(a:Airport):R (Unit ⊕ Bool):=
 (Ef s2 (j:Int)).bind fun a1=>
 (Rp a a1).bind fun r=>
 if r then
(.ok (.inl ()))
else
(.ok (.inr (false)))
def B9 (s1:List Airport)(s2:List Airport):R Bool:=
 if((s1.length:Int) != (s2.length:Int)) then
(.ok false)
else
((each (fun j a=>fun _=>Dc s2 j a) 0 s1 ()).bind (Ds (fun _=>.ok true) (fun r=>.ok r)))
def Lj (s2:List Class)(j:Nat)(a:Class):R (Unit ⊕ Bool):=
 (Ef s2 (j:Int)).bind fun a1=>
 if((a.Name==a1.Name)&&((a.Slow==a1.Slow)&&((a.Fast==a1.Fast)&&(a.Places==a1.Places)))) then
(.ok (.inl ()))
else
(.ok (.inr (false)))
def F7 (s1:List Class)(s2:List Class):R Bool:=
 if((s1.length:Int) != (s2.length:Int)) then
(.ok false)
else
((each (fun j a=>fun _=>Lj s2 j a) 0 s1 ()).bind (Ds (fun _=>.ok true) (fun r=>.ok r)))
def Ly (s2:List Rule)(j:Nat)(a:Rule):R (Unit ⊕ Bool):=
 (Ef s2 (j:Int)).bind fun a1=>
 if((a.Kind==a1.Kind)&&((a.C==a1.C)&&((a.A==a1.A)&&((a.Class==a1.Class)&&((a.Airport==a1.Airport)&&((a.N==a1.N)&&((a.Hours.From==a1.Hours.From)&&(a.Hours.To==a1.Hours.To)))))))) then
(.ok (.inl ()))
else
(.ok (.inr (false)))
def Fw (s1:List Rule)(s2:List Rule):R Bool:=
 if((s1.length:Int) != (s2.length:Int)) then
(.ok false)
else
((each (fun j a=>fun _=>Ly s2 j a) 0 s1 ()).bind (Ds (fun _=>.ok true) (fun r=>.ok r)))
def Na (a:Airspace)(b:Airspace):R Bool:=
 (Et a.Volumes b.Volumes).bind fun r=>
 (if r then(Em a.Sectors b.Sectors).bind fun r1=>
 R.ok r1 else R.ok false).bind (fun(b1:Bool)=>(if b1 then(Du a.Configs b.Configs).bind fun r2=>
 R.ok r2 else R.ok false).bind (fun(b2:Bool)=>(if b2 then(C0 a.Segments b.Segments).bind fun r3=>
 R.ok r3 else R.ok false).bind (fun(b3:Bool)=>(if b3 then(Cs a.Routes b.Routes).bind fun r4=>
 R.ok r4 else R.ok false).bind (fun(b4:Bool)=>(if b4 then(B9 a.Airports b.Airports).bind fun r5=>
 R.ok r5 else R.ok false).bind (fun(b5:Bool)=>(if b5 then(F7 a.Classes b.Classes).bind fun r6=>
 R.ok r6 else R.ok false).bind (fun(b6:Bool)=>(if b6 then(Fw a.Rules b.Rules).bind fun r7=>
 R.ok r7 else R.ok false).bind (fun(b7:Bool)=>.ok b7)))))))
def Qz:R Bool:=
 (Gl []).bind fun r=>
 (Gl [118,111,108,117,109,101,32,97,32,99,108,111,115,101,100,32,54,48,32,116,111,32,54,48,59]).bind fun r1=>
 (Gl [101,120,101,109,112,116,32,104,101,97,118,121]).bind fun r2=>
 (Gl [108,111,110,103,101,115,116,32,104,101,97,118,121,32,51,53,59]).bind fun r3=>
 (O3 ({ Volumes:=[],Sectors:=[],Configs:=[],Segments:=[],Routes:=[],Airports:=[({ Name:=[120],Modes:=[] }:Airport)],Classes:=[],Rules:=[] }:Airspace)).bind fun r4=>
 (O3 ({ Volumes:=[({ Name:=[97],Closed:=[] }:Volume)],Sectors:=[],Configs:=[],Segments:=[],Routes:=[],Airports:=[],Classes:=[],Rules:=[] }:Airspace)).bind fun r5=>
 (Gl [99,117,114,102,101,119,32,104,101,97,118,121,32,97,116,32,120,32,48,32,116,111,32,51,48,48,59,32,115,101,99,116,111,114,32,115,32,61,32,97,44,32,98,32,114,97,100,97,114,32,57,32,112,114,111,99,101,100,117,114,97,108,32,52,59]).bind fun r6=>
 (O3 ({ Volumes:=[],Sectors:=[({ Name:=[115],Names:=[[97],[98]],Volumes:=[0,1],Radar:=9,Procedural:=4 }:Sector)],Configs:=[],Segments:=[],Routes:=[],Airports:=[],Classes:=[],Rules:=[({ Kind:=1,C:=[104,101,97,118,121],A:=[120],Class:=0,Airport:=0,N:=0,Hours:=({ From:=0,To:=300 }:Span) }:Rule)] }:Airspace)).bind fun r7=>
 if(((((((((((((r.2.2 != 0)||(r1.2.2 != 80))||(r2.2.2 != 80))||(r3.2.2 != 80))||(r4.2 != 80))||(r5.2 != 0))||(r6.2.2 != 0))||(r7.2 != 0))||(r.2.1 != 0))||(r1.2.1 != 22))||(r2.2.1 != 12))||(r3.2.1 != 14))||(r6.2.1 != 0)) then
(.ok false)
else
((Tu r.1 ({ Volumes:=[],Sectors:=[],Configs:=[],Segments:=[],Routes:=[],Airports:=[],Classes:=[],Rules:=[] }:Airspace)).bind fun r8=>
 (if(r8&&(r5.1==[118,111,108,117,109,101,32,97,32,59])) then(Tu r6.1 ({ Volumes:=[],Sectors:=[({ Name:=[115],Names:=[[97],[98]],Volumes:=[],Radar:=9,Procedural:=4 }:Sector)],Configs:=[],Segments:=[],Routes:=[],Airports:=[],Classes:=[],Rules:=[({ Kind:=1,C:=[104,101,97,118,121],A:=[120],Class:=0,Airport:=0,N:=0,Hours:=({ From:=0,To:=300 }:Span) }:Rule)] }:Airspace)).bind fun r9=>
 R.ok r9 else R.ok false).bind (fun(b:Bool)=>(if(b&&(r7.1==[115,101,99,116,111,114,32,115,32,61,32,97,32,44,32,98,32,114,97,100,97,114,32,57,32,112,114,111,99,101,100,117,114,97,108,32,52,32,59,32,99,117,114,102,101,119,32,104,101,97,118,121,32,97,116,32,120,32,48,32,116,111,32,51,48,48,32,59])) then(Na r6.1 ({ Volumes:=[],Sectors:=[({ Name:=[115],Names:=[[97],[98]],Volumes:=[],Radar:=9,Procedural:=4 }:Sector)],Configs:=[],Segments:=[],Routes:=[],Airports:=[],Classes:=[],Rules:=[({ Kind:=1,C:=[104,101,97,118,121],A:=[120],Class:=0,Airport:=0,N:=0,Hours:=({ From:=0,To:=300 }:Span) }:Rule)] }:Airspace)).bind fun r10=>
 R.ok r10 else R.ok false).bind (fun(b1:Bool)=>(if b1 then(Na r6.1 ({ Volumes:=[],Sectors:=[({ Name:=[115],Names:=[[97],[98]],Volumes:=[0,1],Radar:=9,Procedural:=4 }:Sector)],Configs:=[],Segments:=[],Routes:=[],Airports:=[],Classes:=[],Rules:=[({ Kind:=1,C:=[104,101,97,118,121],A:=[120],Class:=0,Airport:=0,N:=0,Hours:=({ From:=0,To:=300 }:Span) }:Rule)] }:Airspace)).bind fun r11=>
 R.ok (!r11) else R.ok false).bind (fun(b2:Bool)=>.ok b2))))
def Ja (r1:(Airspace×Int×Int))(a:Token)(met:Bool):R Bool:=
 .ok (met||(a.At==r1.2.1))
def Mt (src:Av):R Bool:=
 (Qz).bind fun r=>
 if r then
(if(src.length:Int) > 4000 then
(.ok true)
else
((Gl src).bind fun r1=>
 (V8 src).bind fun r2=>
 if((r2.2.2 != 0)||(r1.2.2==0)) then
(.ok ((r2.2.2==0)||(r1.2.2==r2.2.2)))
else
(if((((decide (r1.2.1<0))||(decide (r1.2.1 > (src.length:Int))))||((r1.2.2 != 80)&&(r1.2.2 != 2)))||((r1.2.1==(src.length:Int))&&(r1.2.2 != 80))) then
(.ok false)
else
((It (fun _ a=>fun met=>Ja r1 a met) 0 r2.1 (r1.2.1==(src.length:Int))).bind ((fun met=>if(0:Int)≤r1.2.1∧r1.2.1≤(src.length:Int) then
 (Gl (src.take (Int.toNat r1.2.1))).bind fun r3=>
 .ok (met&&((r3.2.2==0)||((r3.2.2==80)&&(r3.2.1==r1.2.1)))) else .bad))))))
else
(.ok false)
end
end Go.Am
namespace Go.Am
open Go
set_option linter.unusedVariables false
def Mg:Prop := ∀ (a0:Av) (_:Ab7.good a0),Ab7.bulk a0≤1048576→Mt a0=.ok true
end Go.Am
namespace Go.Am
open Go
set_option linter.unusedVariables false
set_option linter.unusedSimpArgs false
def Ol (c:UInt8):Bool:=c==32||c==9||c==10||c==13
def R3 (c:UInt8):Bool:=(decide (97≤c)&&decide (c≤122))||(decide (65≤c)&&decide (c≤90))
def Fo (c:UInt8):Bool:=decide (48≤c)&&decide (c≤57)
def Ix (c:UInt8):Bool:=R3 c||Fo c||c==95
def Ug (c:UInt8):Bool:=[(123:UInt8),125,40,41,59,44,61,35,47,60,33,45,46].contains c
def G4 (c:UInt8):Int:=if R3 c then 2 else if Fo c then 3 else if c==95 then 5 else if Ol c then 1 else if Ug c then 4 else 0
theorem T7 {p:UInt8→Prop}(h : ∀ n:Fin 256,p (UInt8.ofNat n.val))(c:UInt8):p c:=by
 have h1:=h ⟨c.toNat,c.toNat_lt⟩
 have e:UInt8.ofNat c.toNat=c:=by simp
 simpa [e] using h1
theorem Xy (c:UInt8):Kc (c.toNat:Int)=.ok (G4 c):=T7 (p:=fun c=>Kc (c.toNat:Int)=.ok (G4 c)) (by decide +kernel) c
theorem Ai3 (c:UInt8):(G4 c==1)=Ol c:=T7 (p:=fun c=>(G4 c==1)=Ol c) (by decide +kernel) c
theorem Af6 (c:UInt8):(G4 c==2)=R3 c:=T7 (p:=fun c=>(G4 c==2)=R3 c) (by decide +kernel) c
theorem Aij (c:UInt8):(G4 c==3)=Fo c:=T7 (p:=fun c=>(G4 c==3)=Fo c) (by decide +kernel) c
theorem Aii (c:UInt8):(G4 c==4)=Ug c:=T7 (p:=fun c=>(G4 c==4)=Ug c) (by decide +kernel) c
theorem Al8 (c:UInt8):(G4 c==2||G4 c==3||G4 c==5)=Ix c:=T7 (p:=fun c=>(G4 c==2||G4 c==3||G4 c==5)=Ix c) (by decide +kernel) c
theorem Anb (c:UInt8):G4 c=0∨G4 c=1∨G4 c=2∨G4 c=3∨G4 c=4∨G4 c=5:=T7 (p:=fun c=>G4 c=0∨G4 c=1∨G4 c=2∨G4 c=3∨G4 c=4∨G4 c=5) (by decide +kernel) c
theorem Adf {c:UInt8}(h:R3 c=true):Ix c=true:=by simp [Ix,h]
theorem Ae4 {src:Av}{q:UInt8→Bool}{body:Int→R (Int ⊕ Int)}(hb : ∀ n:Nat,n≤src.length→body (n:Int)=match src[n]? with | some c=>if q c then .ok (.inl ((n+1:Nat):Int)) else .ok (.inr (n:Int)) | none=>.ok (.inr (n:Int))) :
  ∀ (k p:Nat),p≤src.length→src.length - p=k→loop body (p:Int)=.ok (((p+((src.drop p).takeWhile q).length:Nat)):Int)
 | k,p,hp,hk=>by
  rw [Rn,hb p hp]
  by_cases hl:p<src.length
  ·have e:src.drop p=src[p]::src.drop (p+1):=List.drop_eq_getElem_cons hl
   rw [List.getElem?_eq_getElem hl,e,List.takeWhile_cons]
   simp only
   cases hq:q src[p]
   ·simp
   ·simp only [if_true,R.ok_bind]
    cases k with
    | zero=>omega
    | succ k=>
     rw [Ae4 hb k (p+1) hl (by omega)]
     simp only [List.length_cons]
     congr 2
     omega
  ·have e:src[p]? = none:=List.getElem?_eq_none (by omega)
   have e2:src.drop p=[]:=List.drop_eq_nil_of_le (by omega)
   rw [e,e2]; simp
theorem Ae3 {α:Type}(q:α→Bool) : ∀ l:List α,l.take (l.takeWhile q).length=l.takeWhile q
 | []=>rfl
 | a::l=>by
  rw [List.takeWhile_cons]
  cases q a
  ·rfl
  ·simp [Ae3 q l]
theorem Qs {α:Type}(q:α→Bool) : ∀ l:List α,(l.takeWhile q).length≤l.length
 | []=>Nat.le_refl _
 | a::l=>by
  rw [List.takeWhile_cons]
  cases q a
  ·simp
  ·simpa using Qs q l
theorem Al5 {src:Av}{p:Nat}(q:UInt8→Bool):cut src (p:Int) ((p+((src.drop p).takeWhile q).length:Nat):Int)=(src.drop p).takeWhile q:=by
 unfold cut
 simp only [Int.toNat_natCast]
 rw [show p+((src.drop p).takeWhile q).length - p=((src.drop p).takeWhile q).length by omega,Ae3]
theorem Afc {src:Av}{n:Nat}{c:UInt8}(h:src[n]? = some c):Ef src (n:Int)=.ok c:=Ae7 h
theorem Abh (v:Int) : ∀ (l:List Int) (k:Nat),∃ j:Nat,each (fun j a=>fun _=>Ft v j a) k l ()=.ok (if l.contains v then .inr (j:Int) else .inl ())
 | [],k=>⟨0,rfl⟩
 | a::l,k=>by
  rw [U9]
  by_cases h:v=a
  ·subst h; exact⟨k,by simp [Ft]⟩
  ·have h1:(v==a)=false:=by simpa using h
   obtain⟨j,hj⟩:=Abh v l (k+1)
   refine⟨j,?_⟩
   rw [show Ft v k a=.ok (.inl ()) by unfold Ft; rw [h1]; rfl,R.ok_bind,List.contains_cons,h1]
   exact hj
theorem Ac4 (l:List Int)(v:Int):Kr l v=.ok (l.contains v):=by
 unfold Kr N8
 obtain⟨j,hj⟩:=Abh v l 0
 rw [hj]
 cases h:l.contains v
 ·simp only [Bool.false_eq_true,if_false,R.ok_bind]; rfl
 ·simp only [if_true,R.ok_bind]
  simp
theorem Amc (src:Av)(p:Nat)(l:List Token)(some:List Int)(hp:p≤src.length)(hs:src.length≤65536) :
  Ik ({ fSrc:=src,fAt:=p,fL:=l }:T119) some=.ok ((src.drop p).takeWhile fun c=>some.contains (G4 c)):=by
 unfold Ik
 rw [Ae4 (src:=src) (q:=fun c=>some.contains (G4 c)) (k:=src.length - p) (p:=p) (fun n hn=>?_) hp rfl]
 ·simp only [R.ok_bind]
  unfold K6
  have hle:=Qs (fun c=>some.contains (G4 c)) (src.drop p)
  rw [List.length_drop] at hle
  dsimp only
  rw [if_pos ⟨by omega,by omega,by omega⟩]
  simp only [Al5]
 ·unfold Lf
  by_cases hl:n<src.length
  ·have hi:(n:Int)<src.length:=by omega
   rw [List.getElem?_eq_getElem hl]
   simp only [hi,decide_true,if_true]
   rw [Afc (List.getElem?_eq_getElem hl)]
   simp only [R.ok_bind,Xy,Ac4]
   cases some.contains (G4 src[n])
   ·rfl
   ·simp only [if_true]
    rw [Z6 (by omega) (by omega)]
    rfl
  ·have hi:¬ ((n:Int)<src.length):=by omega
   rw [List.getElem?_eq_none (by omega)]
   simp only [hi,decide_false,Bool.false_eq_true,if_false,R.ok_bind]
def V1 (s:Av):Bool:=match s with | []=>false | c::w=>R3 c&&w.all Ix&&decide (w.length+1≤32)
theorem Abo {α:Type}{b:Nat→α→Unit→R (Unit ⊕ Bool)}{p:α→Bool}(hb : ∀ j a,b j a ()=if p a then .ok (.inl ()) else .ok (.inr false)) : ∀ (l:List α) (k:Nat),each b k l ()=.ok (if l.all p then .inl () else .inr false)
 | [],k=>rfl
 | a::l,k=>by
  rw [U9,hb]
  cases h:p a
  ·simp [h]
  ·simp [h,Abo hb l (k+1)]
theorem Air (c:UInt8):(((G4 c != 2)&&(G4 c != 3))&&(G4 c != 5)) = !Ix c:=by
 rw [← Al8]; simp [bne,Bool.not_or]
theorem Ak3 (s:Av):R1 s=.ok (V1 s):=by
 unfold R1 V1
 cases s with
 | nil=>rfl
 | cons c w=>
  simp only [show((c::w:Av)==[])=false from rfl,Bool.false_or]
  by_cases h:w.length+1≤32
  ·have h1:¬ (((c::w).length:Int) > 32):=by simp only [List.length_cons]; omega
   have h2:(c::w).length≤Ek:=by simp only [List.length_cons,Ek]; omega
   simp only [h1,decide_false,Bool.false_eq_true,if_false,Aju,R.ok_bind,Xy,h2,if_true,h,decide_true,Bool.and_true]
   cases hc:R3 c
   ·rw [show(G4 c != 2)=true by rw [bne,Af6,hc]; rfl]; simp
   ·rw [show(G4 c != 2)=false by rw [bne,Af6,hc]; rfl]
    simp only [Bool.false_eq_true,if_false,Bool.true_and]
    rw [Abo (p:=Ix) (fun j a=>by unfold Ok; simp only [Xy,R.ok_bind,Air]; cases Ix a <;> rfl)]
    simp only [R.ok_bind,List.all_cons,Adf hc,Bool.true_and]
    cases w.all Ix <;> rfl
  ·have h1:((c::w).length:Int) > 32:=by simp only [List.length_cons]; omega
   simp only [h1,decide_true,if_true,R.ok_bind,h,decide_false,Bool.and_false]
end Go.Am
namespace Go.Am
open Go
set_option linter.unusedVariables false
set_option linter.unusedSimpArgs false
def Qv (a:Nat)(s:Av):Nat:=s.foldl (fun a c=>a * 10+(c.toNat - 48)) a
theorem Wo (a:Nat):Qv a []=a:=rfl
theorem Ma (a:Nat)(c:UInt8)(s:Av):Qv a (c::s)=Qv (a * 10+(c.toNat - 48)) s:=by unfold Qv; rw [List.foldl_cons]
theorem Y4 : ∀ (s t:Av) (a:Nat),Qv a (s++t)=Qv (Qv a s) t
 | [],t,a=>rfl
 | c::s,t,a=>by rw [List.cons_append,Ma,Ma,Y4 s t]
theorem Aat : ∀ (s:Av) (a:Nat),a≤Qv a s
 | [],a=>Nat.le_refl _
 | c::s,a=>by
  have:=Aat s (a * 10+(c.toNat - 48))
  rw [Ma]; omega
def val (s:Av):Nat:=Qv 0 s
def Tk (s:Av):Bool:=decide (s.length=1)||decide (s.head? ≠ some 48)
def U4 (s:Av):Bool:=Tk s&&decide (val s≤1099511627776)
theorem Rh {c:UInt8}:Fo c=true↔48≤c.toNat∧c.toNat≤57:=by
 unfold Fo
 simp only [Bool.and_eq_true,decide_eq_true_eq,UInt8.le_iff_toNat_le]
 rfl
theorem Aha (n:Nat)(h:n<10):Fo (UInt8.ofNat (48+n))=true∧(UInt8.ofNat (48+n)).toNat=48+n:=by
 have e:(UInt8.ofNat (48+n)).toNat=48+n:=by rw [UInt8.toNat_ofNat']; omega
 exact⟨Rh.2 (by omega),e⟩
theorem Adn {c:UInt8}(h:Fo c=true):UInt8.ofNat (48+(c.toNat - 48))=c:=by
 have:=Rh.1 h
 rw [show 48+(c.toNat - 48)=c.toNat by omega]; simp
theorem Akq (u:Nat):(Lib.decDigits u).all Fo=true∧val (Lib.decDigits u)=u∧Lib.decDigits u≠[]∧Tk (Lib.decDigits u)=true∧(1≤u→(Lib.decDigits u).head? ≠ some 48):=by
 induction u using Nat.strongRecOn with
 | _ u ih=>
  by_cases h:u<10
  ·rw [Lib.decDigits_one h]
   obtain⟨h1,h2⟩:=Aha u h
   refine⟨by rw [List.all_cons,h1]; rfl,by unfold val; rw [Ma,Wo,h2]; omega,by simp,by simp [Tk],fun hu e=>?_⟩
   simp only [List.head?_cons,Option.some.injEq] at e
   rw [e] at h2
   have:(48:UInt8).toNat=48:=rfl
   omega
  ·rw [Lib.decDigits,dif_neg h]
   obtain⟨a1,a2,a3,a4,a5⟩:=ih (u / 10) (by omega)
   obtain⟨h1,h2⟩:=Aha (u % 10) (by omega)
   have hd:(Lib.decDigits (u / 10)++[UInt8.ofNat (48+u % 10)]).head? = (Lib.decDigits (u / 10)).head? := by
    cases hq:Lib.decDigits (u / 10) with
    | nil=>exact absurd hq a3
    | cons c w=>rfl
   refine⟨by rw [List.all_append,a1,List.all_cons,h1]; rfl,?_,by simp,?_,fun hu=>by rw [hd]; exact a5 (by omega)⟩
   ·unfold val at a2 ⊢
    rw [Y4,a2,Ma,Wo,h2]; omega
   ·have:=a5 (by omega)
    unfold Tk
    rw [hd]
    simp [this]
theorem Alx : ∀ (s:Av),s≠[]→s.all Fo=true→Tk s=true→Lib.decDigits (val s)=s:=by
 suffices H : ∀ (n:Nat) (s:Av),s.length=n→s≠[]→s.all Fo=true→Tk s=true→Lib.decDigits (val s)=s from fun s=>H _ s rfl
 intro n
 induction n with
 | zero=>intro s h1 h2; exact absurd (List.length_eq_zero_iff.1 h1) h2
 | succ n ih=>
  intro s h1 h2 h3 h4
  obtain⟨w,c,rfl⟩ : ∃ w c,s=w++[c]:=⟨s.dropLast,s.getLast h2,(List.dropLast_concat_getLast h2).symm⟩
  rw [List.all_append,Bool.and_eq_true] at h3
  obtain⟨h3,h5⟩:=h3
  have h5:Fo c=true:=by simpa using h5
  have hc:=Rh.1 h5
  have hv:val (w++[c])=val w * 10+(c.toNat - 48):=by unfold val; rw [Y4,Ma,Wo]
  by_cases hw:w=[]
  ·subst hw
   have h0:val []=0:=rfl
   rw [hv,h0,Lib.decDigits_one (by omega)]
   simp only [Nat.zero_mul,Nat.zero_add,List.nil_append]
   rw [Adn h5]
  ·obtain⟨d,w',rfl⟩ : ∃ d w',w=d::w':=by cases w with | nil=>exact absurd rfl hw | cons d w'=>exact⟨d,w',rfl⟩
   have hp:d≠48:=by
    intro e; subst e
    simp [Tk] at h4
   have hd:Fo d=true:=by simp at h3; exact h3.1
   have hd':=Rh.1 hd
   have h1v:1≤val (d::w'):=by
    have:=Aat w' (0 * 10+(d.toNat - 48))
    have h6:d.toNat≠48:=fun e=>hp (UInt8.toNat_inj.1 (by rw [e]; rfl))
    unfold val
    rw [Ma]
    omega
   have e0:Qv 0 (d::w')=val (d::w'):=rfl
   rw [hv,Lib.decDigits,dif_neg (by omega)]
   have e1:(val (d::w') * 10+(c.toNat - 48)) / 10=val (d::w'):=by omega
   have e2:(val (d::w') * 10+(c.toNat - 48)) % 10=c.toNat - 48:=by omega
   rw [e1,e2,Adn h5,ih (d::w') (by simpa using h1) hw h3 (by simp [Tk,hp])]
theorem Ab9 : ∀ (s:Av) (a:Nat),s.all Fo=true→Qv a s<18446744073709551616→Lib.parseUint10 a s=.ok (Qv a s)
 | [],a,_,_=>rfl
 | c::s,a,h,hv=>by
  have h:Fo c=true∧s.all Fo=true:=by simpa using h
  have hc:=Rh.1 h.1
  have hv':Qv (a * 10+(c.toNat - 48)) s<18446744073709551616:=by rw [← Ma]; exact hv
  have:=Aat s (a * 10+(c.toNat - 48))
  rw [Lib.parseUint10,if_pos hc,if_neg (by omega),if_neg (by omega),Ab9 s _ h.2 hv',Ma]
theorem Abu : ∀ (s:Av) (a:Nat),a<18446744073709551616→s.all Fo=true→18446744073709551616≤Qv a s→Lib.parseUint10 a s=.range
 | [],a,ha,_,hv=>by exfalso; rw [Wo] at hv; omega
 | c::s,a,ha,h,hv=>by
  have h:Fo c=true∧s.all Fo=true:=by simpa using h
  have hc:=Rh.1 h.1
  rw [Lib.parseUint10,if_pos hc]
  split
  ·rfl
  ·split
   ·rfl
   ·exact Abu s _ (by omega) h.2 (by rw [← Ma]; exact hv)
theorem Ah0 {s:Av}(hs:s≠[])(h:s.all Fo=true):Lib.atoiAll s=if 9223372036854775808≤val s then .range else .ok (val s:Int):=by
 cases s with
 | nil=>exact absurd rfl hs
 | cons c s=>
  have hc:Fo c=true:=by simp at h; exact h.1
  have hc:=Rh.1 hc
  rw [Lib.atoiAll_plain c s (by omega) (by omega),Lib.parseMag,if_neg (by simp)]
  by_cases hv:val (c::s)<18446744073709551616
  ·rw [Ab9 _ _ h hv]; rfl
  ·rw [Abu _ _ (by omega) h (Nat.le_of_not_lt hv),if_pos (by omega)]; rfl
end Go.Am
namespace Go.Am
open Go
set_option linter.unusedVariables false
set_option linter.unusedSimpArgs false
def tk (c:UInt8)(s:Av):Option (Option Token×Nat):=
 if Ol c then some (none,0)
 else if R3 c then
  if(s.takeWhile Ix).length+1≤32 then some (some ⟨1,c::s.takeWhile Ix,0,0⟩,(s.takeWhile Ix).length) else none
 else if Fo c then
  if U4 (c::s.takeWhile Fo) then some (some ⟨2,[],val (c::s.takeWhile Fo),0⟩,(s.takeWhile Fo).length) else none
 else if Ug c then
  if c=47∧s.head? = some 47 then some (none,(s.takeWhile (· != 10)).length)
  else some (some ⟨3,[c],0,0⟩,0)
 else none
def at' (p:Nat)(t:Token):Token:={ t with At:=p }
inductive Lx where
 | ok (l:List Token)
 | wrong (e:Nat)
 deriving DecidableEq
def Lx.add (o:Option Token)(p:Nat):Lx→Lx
 | .ok l=>.ok ((o.map (at' p)).toList++l)
 | .wrong e=>.wrong e
def Zg:Nat→Av→Nat→Lx
 | _,[],_=>.ok []
 | 0,_::_,_=>.ok []
 | n+1,c::s,p=>match tk c s with
  | none=>.wrong p
  | some (o,k)=>(Zg n (s.drop k) (p+1+k)).add o p
def L0 (s:Av)(p:Nat):Lx:=Zg s.length s p
theorem Ack : ∀ (n m:Nat) (s:Av) (p:Nat),s.length≤n→s.length≤m→Zg n s p=Zg m s p
 | 0,0,s,p,_,_=>rfl
 | 0,m+1,s,p,h,_=>by
  have:s=[]:=List.length_eq_zero_iff.1 (by omega)
  subst this; rfl
 | n+1,0,s,p,_,h=>by
  have:s=[]:=List.length_eq_zero_iff.1 (by omega)
  subst this; rfl
 | n+1,m+1,[],p,_,_=>rfl
 | n+1,m+1,c::s,p,h1,h2=>by
  simp only [List.length_cons] at h1 h2
  rw [Zg,Zg]
  cases tk c s with
  | none=>rfl
  | some x=>
   obtain⟨o,k⟩:=x
   simp only
   rw [Ack n m (s.drop k) _ (by rw [List.length_drop]; omega) (by rw [List.length_drop]; omega)]
theorem Wc (p:Nat):L0 [] p=.ok []:=rfl
theorem Qf (c:UInt8)(s:Av)(p:Nat):L0 (c::s) p=match tk c s with
  | none=>.wrong p
  | some (o,k)=>(L0 (s.drop k) (p+1+k)).add o p:=by
 unfold L0
 rw [List.length_cons,Zg]
 cases tk c s with
 | none=>rfl
 | some x=>
  obtain⟨o,k⟩:=x
  simp only
  rw [Ack s.length (s.drop k).length (s.drop k) _ (by rw [List.length_drop]; omega) (Nat.le_refl _)]
@[simp] theorem Lx.add_none (p:Nat)(x:Lx):x.add none p=x:=by cases x <;> rfl
theorem Amr {c:UInt8}(s:Av)(h:Ol c=true):tk c s=some (none,0):=by unfold tk; rw [if_pos h]
theorem Afp {c:UInt8}{s:Av}{o:Option Token}{k:Nat}(ht:tk c s=some (o,k)):k≤s.length:=by
 have h1:=Qs Ix s
 have h2:=Qs Fo s
 have h3:=Qs (· != 10) s
 unfold tk at ht
 repeat' split at ht
 all_goals first | (cases ht; done) | (cases ht; assumption) | (cases ht; exact Nat.zero_le _)
theorem Adx : ∀ (w s:Av) (p:Nat),w.all Ol=true→L0 (w++s) p=L0 s (p+w.length)
 | [],s,p,_=>rfl
 | c::w,s,p,h=>by
  have h:Ol c=true∧w.all Ol=true:=by simpa using h
  rw [List.cons_append,Qf,Amr _ h.1]
  simp only [List.drop_zero,Lx.add_none]
  rw [Adx w s _ h.2,List.length_cons]
  congr 1; omega
def out:Lx→List Token×Int×Int
 | .ok l=>(l,0,0)
 | .wrong e=>([],(e:Int),70)
def F4 (s:Av):List Token×Int×Int:=if s.length≤65536 then out (L0 s 0) else([],0,2)
theorem Z8 {α:Type}(q:α→Bool) : ∀ l:List α,(l.takeWhile q).all q=true
 | []=>rfl
 | a::l=>by
  rw [List.takeWhile_cons]
  cases h:q a
  ·rfl
  ·rw [if_pos rfl,List.all_cons,h,Z8 q l]; rfl
theorem Afm {α:Type}(q:α→Bool)(l:List α):l.drop (l.takeWhile q).length=l.dropWhile q:=by
 induction l with
 | nil=>rfl
 | cons a l ih=>
  rw [List.takeWhile_cons,List.dropWhile_cons]
  cases q a
  ·rfl
  ·simpa using ih
theorem Akx {src:Av}{p:Nat}{c:UInt8}{s:Av}(h:src.drop p=c::s):cut src (p:Int) ((p+1:Nat):Int)=[c]:=by
 unfold cut
 simp only [Int.toNat_natCast]
 rw [h,show p+1 - p=1 by omega]; rfl
theorem Abs {src:Av}{p:Nat}{c:UInt8}{s:Av}(h:src.drop p=c::s)(k:Nat):s.drop k=src.drop (p+1+k):=by
 have:src.drop (p+1)=s:=by rw [← List.drop_drop,h]; rfl
 rw [← this,List.drop_drop]
theorem Alc {src:Av}{p:Nat}{c:UInt8}{s:Av}(h:src.drop p=c::s):src[p]? = some c:=by
 have:=List.getElem?_drop (xs:=src) (i:=p) (j:=0)
 rw [h] at this
 simpa using this.symm
theorem Ab6 {src:Av}{p:Nat}{c:UInt8}{s:Av}(h:src.drop p=c::s):p+1+s.length=src.length:=by
 have:=congrArg List.length h
 rw [List.length_drop,List.length_cons] at this
 omega
theorem Aio {c:UInt8}{w:Av}(hc:R3 c=true)(hw:w.all Ix=true):V1 (c::w)=decide (w.length+1≤32):=by
 simp [V1,hc,hw]
end Go.Am
namespace Go.Am
open Go
set_option linter.unusedVariables false
set_option linter.unusedSimpArgs false
theorem Ac9 (c:UInt8) : ∀ (l:Av),Lib.indexByte l c=if(l.takeWhile (· != c)).length=l.length then -1 else((l.takeWhile (· != c)).length:Int)
 | []=>rfl
 | a::l=>by
  have ih:=Ac9 c l
  have hle:=Qs (· != c) l
  rw [Lib.indexByte,List.takeWhile_cons]
  by_cases h:a=c
  ·subst h; simp
  ·have h1:(a != c)=true:=bne_iff_ne.2 h
   have h2:(a==c)=false:=by simpa using h
   rw [ih,h1]
   simp only [h2,Bool.false_eq_true,if_false,if_true,List.length_cons,Nat.add_right_cancel_iff]
   by_cases hq:(l.takeWhile (· != c)).length=l.length
   ·simp [hq]
   ·simp only [hq,if_false]
    have:¬ (((l.takeWhile (· != c)).length:Int)<0):=by omega
    simp [this]
    try omega
theorem Aak {α:Type}[BEq α][LawfulBEq α][DecidableEq α](a b:α):(a==b)=decide (a=b):=by
 by_cases h:a=b <;> simp [h]
def Vu:Av→Bool
 | [c]=>Ug c
 | _=>false
def P2 (t:Token):Bool:=if t.Kind==1 then V1 t.Text&&(t.N==0) else if t.Kind==2 then(t.Text==[])&&decide (t.N≥0)&&decide (t.N≤1099511627776) else if t.Kind==3 then Vu t.Text&&(t.N==0) else false
theorem Am5 (s:Av):((s.length:Int)==1)=(s.length==1):=by
 rw [Aak,Aak,decide_eq_decide]; omega
theorem Amp (s:Av){f:Int→R Bool}(hf : ∀ c:UInt8,f (c.toNat:Int)=.ok (Ug c)):(if((s.length:Int)==1) then(Ef s 0).bind fun a=>f (a.toNat:Int) else R.ok false)=.ok (Vu s):=by
 rw [Am5]
 match s with
 | []=>rfl
 | [c]=>simp only [List.length_singleton,beq_self_eq_true,if_true,Aju,R.ok_bind,hf]; rfl
 | c::d::w=>simp [Vu]
theorem Ah7 (t:Token):Qi t=.ok (P2 t):=by
 unfold Qi P2
 rw [show(fun a:UInt8=>(Kc (a.toNat:Int)).bind fun r1=>R.ok (r1==4))=fun a:UInt8=>(fun n:Int=>(Kc n).bind fun r1=>R.ok (r1==4)) (a.toNat:Int) from rfl,
  Amp (f:=fun n:Int=>(Kc n).bind fun r1=>R.ok (r1==4)) t.Text (fun c=>by simp only [Xy,R.ok_bind,Aii])]
 simp only [Ak3,R.ok_bind]
 split
 ·rfl
 ·split
  ·rfl
  ·split <;> rfl
theorem Adj (text:Av)(t:Token)(src:Av)(p:Nat)(l:List Token)(hl:(l.length+1) * 40≤Ek) :
  Fx text t src p l=if P2 t then .ok (l++[at' p t]) else .pan ⟨113,.int .i64 p⟩:=by
 unfold Fx
 rw [Ah7,R.ok_bind]
 simp only [List.length_singleton]
 rw [if_pos hl]
 rfl
theorem Ah3 (n:Nat):Lib.itoa (n:Int)=Lib.decDigits n:=Lib.itoa_nonneg n
theorem Aie {α:Type}{p q:α→Bool}(h : ∀ a,p a=q a)(l:List α):l.takeWhile p=l.takeWhile q:=by rw [show p=q from funext h]
theorem Aap {some:List Int}{q:UInt8→Bool}(h : ∀ c,some.contains (G4 c)=q c){src:Av}{p:Nat}{l:List Token}(hp:p≤src.length)(hs:src.length≤65536) :
  Ik ({ fSrc:=src,fAt:=p,fL:=l }:T119) some=.ok ((src.drop p).takeWhile q):=by rw [Amc src p l some hp hs,Aie h]
def Aaj (p:Nat)(pre:List Token)(c:UInt8)(s:Av):R ((Int×(List Token)) ⊕ (Int×(List Token))):=
 if Ol c then .ok (.inl (((p+1+(s.takeWhile Ol).length:Nat):Int),pre))
 else match tk c s with
  | none=>.pan ⟨113,.int .i64 p⟩
  | some (o,k)=>.ok (.inl (((p+1+k:Nat):Int),pre++(o.map (at' p)).toList))
theorem Zk {c:UInt8}{v:Int}(h:(G4 c==v)=true):G4 c=v:=eq_of_beq h
theorem Agd (s:Av):Lu s [47,47]=.ok (decide (s.take 2=[47,47])):=by
 unfold Lu Gy
 by_cases h:2≤s.length
 ·have h1:(s.length:Int)≥(([47,47]:Av).length:Int):=by simp; omega
  simp only [h1,decide_true,if_true]
  rw [if_pos ⟨by simp,trivial⟩]
  simp only [R.ok_bind]
  rw [Aak]
  rfl
 ·have h1:¬ ((s.length:Int)≥(([47,47]:Av).length:Int)):=by simp; omega
  simp only [h1,decide_false,Bool.false_eq_true,if_false,R.ok_bind]
  rw [decide_eq_false]
  intro e
  have:=congrArg List.length e
  simp at this
  omega
theorem Agf (src:Av)(hs:src.length≤65536)(p:Nat)(pre:List Token)(c:UInt8)(s:Av)(h:src.drop p=c::s)(hl:pre.length≤p) :
  L3 src (p:Int) pre=Aaj p pre c s:=by
 have hlen:=Ab6 h
 have hat:=Alc h
 have hlim:(pre.length+1) * 40≤Ek:=by simp only [Ek]; omega
 unfold L3 Aaj
 rw [if_pos (by omega),Afc hat]
 simp only [R.ok_bind,Xy]
 have wr : ∀ k:Nat,k≤s.length→IntKind.wrap .i64 ((p:Int)+((k+1:Nat):Int))=((p+1+k:Nat):Int):=by
  intro k hk; rw [Z6 (by omega) (by omega)]; omega
 cases hsp:Ol c
 ·simp only [Bool.false_eq_true,if_false]
  unfold tk
  simp only [hsp,Bool.false_eq_true,if_false]
  cases hle:R3 c
  ·simp only [Bool.false_eq_true,if_false]
   cases hfi:Fo c
   ·simp only [Bool.false_eq_true,if_false]
    cases hsi:Ug c
    ·have h1:G4 c≠1:=fun e=>by rw [← Ai3,e] at hsp; cases hsp
     have h2:G4 c≠2:=fun e=>by rw [← Af6,e] at hle; cases hle
     have h3:G4 c≠3:=fun e=>by rw [← Aij,e] at hfi; cases hfi
     have h4:G4 c≠4:=fun e=>by rw [← Aii,e] at hsi; cases hsi
     rcases Anb c with e | e | e | e | e | e
     ·rw [e]; rfl
     ·exact absurd e h1
     ·exact absurd e h2
     ·exact absurd e h3
     ·exact absurd e h4
     ·rw [e]; rfl
    ·have hc:G4 c=4:=Zk (by rw [Aii,hsi])
     rw [hc]
     simp only [show ¬ ((4:Int)=0) by decide,show ¬ ((4:Int)=1) by decide,show ¬ ((4:Int)=2) by decide,show ¬ ((4:Int)=3) by decide,if_false,if_true]
     unfold K8
     rw [if_pos ⟨by omega,by omega⟩]
     simp only [Int.toNat_natCast]
     rw [Agd,R.ok_bind,h]
     have e2:(decide ((c::s).take 2=[47,47]))=decide (c=47∧s.head? = some 47):=by
      cases s with
      | nil=>simp
      | cons d w=>simp
     rw [e2]
     by_cases hcom:c=47∧s.head? = some 47
     ·simp only [hcom,and_self,decide_true,if_true]
      obtain⟨rfl,hhd⟩:=hcom
      rw [if_pos ⟨by omega,by omega⟩]
      unfold strings_IndexByte
      rw [show((10:Int).toNat.toUInt8)=10 from rfl,Ac9,List.takeWhile_cons,show((47:UInt8) != 10)=true by decide,if_pos rfl]
      have hle:=Qs (· != 10) s
      simp only [List.length_cons,Nat.add_right_cancel_iff,R.ok_bind]
      by_cases hall:(s.takeWhile (· != 10)).length=s.length
      ·rw [if_pos hall,if_neg (by omega)]
       simp only [R.ok_bind,hall]
       rw [hlen]; simp
      ·rw [if_neg hall,if_pos (by omega),wr _ hle]
       simp
     ·simp only [hcom,decide_false,Bool.false_eq_true,if_false]
      have hw1:IntKind.wrap .i64 ((p:Int)+1)=((p+1:Nat):Int):=by rw [Z6 (by omega) (by omega)]; rfl
      rw [hw1,Akx h,if_pos ⟨by omega,by omega,by omega⟩,Adj _ _ _ _ _ hlim]
      have hv:P2 ({ Kind:=3,Text:=[c],N:=0,At:=0 }:Token)=true:=by
       show Vu [c]&&true=true
       simp [Vu,hsi]
      rw [hv]
      simp only [if_true,R.ok_bind]
      have:=wr 0 (Nat.zero_le _)
      simp only [List.length_singleton]
      rw [show((1:Nat):Int)=((0+1:Nat):Int) from rfl,this]
      rfl
   ·have hc:G4 c=3:=Zk (by rw [Aij,hfi])
    rw [hc]
    simp only [show ¬ ((3:Int)=0) by decide,show ¬ ((3:Int)=1) by decide,show ¬ ((3:Int)=2) by decide,if_false,if_true]
    unfold J7
    rw [Aap (q:=Fo) (fun c=>by rw [← Aij]; simp only [List.contains_cons,List.contains_nil,Bool.or_false]) (by omega) hs,h,List.takeWhile_cons,hfi,if_pos rfl]
    have hall:(c::s.takeWhile Fo).all Fo=true:=by rw [List.all_cons,hfi,Z8]; rfl
    have hle:=Qs Fo s
    simp only [R.ok_bind]
    unfold Nt
    rw [if_pos (by simp only [List.length_cons]; omega),Ah0 (by simp) hall]
    generalize hg:c::s.takeWhile Fo=g
    have hg1:g≠[]:=by rw [← hg]; simp
    rw [hg] at hall
    have hgl:g.length=(s.takeWhile Fo).length+1:=by rw [← hg]; rfl
    by_cases hbig:9223372036854775808≤val g
    ·rw [if_pos hbig]
     have:U4 g=false:=by unfold U4; rw [decide_eq_false (by omega:¬ val g≤1099511627776),Bool.and_false]
     rw [this]
     rfl
    ·rw [if_neg hbig]
     simp only [R.ok_bind,Bool.false_eq_true,if_false]
     unfold strconv_Itoa
     rw [if_pos ⟨by omega,by omega⟩,Ah3]
     simp only [R.ok_bind]
     have hdd:=Akq (val g)
     by_cases hpl:Tk g=true
     ·rw [Alx g hg1 hall hpl]
      simp only [beq_self_eq_true,Bool.not_true,Bool.false_eq_true,if_false]
      rw [Adj _ _ _ _ _ hlim]
      have hv:P2 ({ Kind:=2,Text:=[],N:=(val g:Int),At:=0 }:Token)=U4 g:=by
       unfold U4; rw [hpl]
       simp only [P2]
       rw [if_neg (by decide),if_pos (by decide),decide_eq_true (by omega:(val g:Int)≥0),Bool.true_and]
       show(true&&decide ((val g:Int)≤1099511627776))=_
       rw [Bool.true_and,decide_eq_decide]
       omega
      rw [hv]
      cases U4 g
      ·rfl
      ·simp only [if_true,R.ok_bind]
       rw [hgl,wr _ hle]
       rfl
     ·have hne:(Lib.decDigits (val g)==g)=false:=by
       rw [beq_eq_false_iff_ne]; intro e; rw [e] at hdd; exact hpl hdd.2.2.2.1
      rw [hne]
      have:U4 g=false:=by unfold U4; rw [Bool.eq_false_iff.2 hpl,Bool.false_and]
      rw [this]
      rfl
  ·have hc:G4 c=2:=Zk (by rw [Af6,hle])
   rw [hc]
   simp only [show ¬ ((2:Int)=0) by decide,show ¬ ((2:Int)=1) by decide,if_false,if_true]
   unfold Lh
   rw [Aap (q:=Ix) (fun c=>by rw [← Al8]; simp only [List.contains_cons,List.contains_nil,Bool.or_false,Bool.or_assoc]) (by omega) hs,h,List.takeWhile_cons,Adf hle,if_pos rfl]
   simp only [R.ok_bind]
   rw [Adj _ _ _ _ _ hlim]
   have hv:P2 ({ Kind:=1,Text:=c::s.takeWhile Ix,N:=0,At:=0 }:Token)=decide ((s.takeWhile Ix).length+1≤32):=by
    show(V1 (c::s.takeWhile Ix)&&true)=_
    rw [Bool.and_true]
    exact Aio hle (Z8 _ _)
   rw [hv]
   have hle':=Qs Ix s
   by_cases hn:(s.takeWhile Ix).length+1≤32
   ·simp only [hn,decide_true,if_true,R.ok_bind,List.length_cons]
    rw [wr _ hle']
    rfl
   ·simp only [hn,decide_false,Bool.false_eq_true,if_false,R.pan_bind]
 ·have hc:G4 c=1:=Zk (by rw [Ai3,hsp])
  rw [hc]
  simp only [show ¬ ((1:Int)=0) by decide,if_false,if_true]
  unfold Ko
  rw [Aap (q:=Ol) (fun c=>by rw [← Ai3]; simp only [List.contains_cons,List.contains_nil,Bool.or_false]) (by omega) hs,h,List.takeWhile_cons,hsp,if_pos rfl]
  simp only [R.ok_bind,List.length_cons]
  rw [wr _ (Qs Ol s)]
def Zx (n:Nat)(pre:List Token):Lx→R (Int×List Token)
 | .ok l=>.ok ((n:Int),pre++l)
 | .wrong e=>.pan ⟨113,.int .i64 (e:Int)⟩
theorem Ahw (src:Av)(hs:src.length≤65536) : ∀ (n p:Nat) (pre:List Token),src.length - p≤n→p≤src.length→pre.length≤p →
  loop (Cz fun fAt l=>L3 src fAt l) ((p:Int),pre)=Zx src.length pre (L0 (src.drop p) p):=by
 have hend : ∀ (p:Nat) (pre:List Token),src.drop p=[]→p≤src.length→loop (Cz fun fAt l=>L3 src fAt l) ((p:Int),pre)=Zx src.length pre (L0 (src.drop p) p):=by
  intro p pre e hp
  have:src.length≤p:=by have:=congrArg List.length e; rw [List.length_drop] at this; simp at this; omega
  rw [Rn,e,Wc]
  simp only [Cz]
  unfold L3
  rw [if_neg (by omega)]
  simp only [R.ok_bind,Zx,List.append_nil]
  rw [show p=src.length by omega]
 intro n
 induction n with
 | zero=>intro p pre hn hp hl; exact hend p pre (List.drop_eq_nil_of_le (by omega)) hp
 | succ n ih=>
  intro p pre hn hp hl
  cases hd:src.drop p with
  | nil=>rw [← hd]; exact hend p pre hd hp
  | cons c s=>
   rw [Rn]
   simp only [Cz]
   rw [Agf src hs p pre c s hd hl]
   have hlen:=Ab6 hd
   unfold Aaj
   cases hsp:Ol c
   ·simp only [Bool.false_eq_true,if_false]
    rw [Qf]
    cases ht:tk c s with
    | none=>rfl
    | some x=>
     obtain⟨o,k⟩:=x
     have hk:k≤s.length:=Afp ht
     have hol:(o.map (at' p)).toList.length≤1:=by cases o <;> simp
     have:=ih (p+1+k) (pre++(o.map (at' p)).toList) (by omega) (by omega) (by rw [List.length_append]; omega)
     simp only [R.ok_bind]
     rw [← Abs hd k] at this
     refine this.trans ?_
     cases L0 (s.drop k) (p+1+k) <;> simp [Zx,Lx.add]
   ·simp only [if_true,R.ok_bind]
    have hle:=Qs Ol s
    have:=ih (p+1+(s.takeWhile Ol).length) pre (by omega) (by omega) (by omega)
    rw [← Abs hd] at this
    refine this.trans ?_
    congr 1
    have e:=Adx (c::s.takeWhile Ol) (s.drop (s.takeWhile Ol).length) p (by rw [List.all_cons,hsp,Z8]; rfl)
    rw [Afm,List.cons_append,List.takeWhile_append_dropWhile,List.length_cons] at e
    rw [e,Afm]
    congr 1
    omega
theorem Agu (s:Av):V8 s=.ok (F4 s):=by
 unfold V8 U2 F4
 by_cases h:s.length≤65536
 ·rw [if_neg (by omega),if_pos h,show((0:Int),([]:List Token))=(((0:Nat):Int),[]) from rfl,Ahw s h s.length 0 [] (by omega) (by omega) (by simp)]
  simp only [List.drop_zero]
  cases L0 s 0 <;> rfl
 ·rw [if_pos (by omega),if_neg h]
  rfl
end Go.Am
namespace Go.Am
open Go
set_option linter.unusedVariables false
set_option linter.unusedSimpArgs false
abbrev PR (α:Type):=Except (List Token×Int) (α×List Token)
abbrev Rd (α:Type):=List Token→PR α
namespace Rd
variable {α β:Type}
def bind (p:Rd α)(f:α→Rd β):Rd β:=fun l=>match p l with
 | .error x=>.error x
 | .ok (a,r)=>f a r
def pure (a:α):Rd α:=fun l=>.ok (a,l)
def fail (e:Int):Rd α:=fun l=>.error (l,e)
end Rd
def Nw (q:Token→Bool):Rd Token
 | []=>.error ([],80)
 | t::r=>if q t then .ok (t,r) else .error (t::r,80)
def Md (k:Int)(w:Av)(t:Token):Bool:=t.Kind==k&&t.Text==w
def Re (k:Int)(w:Av):Rd Bool
 | []=>.ok (false,[])
 | t::r=>.ok (Md k w t,t::r)
def Ah8 (lo hi st:Int)(t:Token):Bool:=t.Kind==2&&(decide (lo≤t.N)&&(decide (t.N≤hi)&&(Int.tmod t.N st==0)))
def Oq:Rd Av:=(Nw fun t=>t.Kind==1).bind fun t=>.pure t.Text
def Mk (k:Int)(w:Av):Rd Unit:=(Nw (Md k w)).bind fun _=>.pure ()
def Om (lo hi st:Int):Rd Int:=(Nw (Ah8 lo hi st)).bind fun t=>.pure t.N
def Pu:Rd Span:=(Om 0 1439 1).bind fun a=>(Mk 1 [116,111]).bind fun _=>(Om (a+1) 1440 1).bind fun b=>.pure ⟨a,b⟩
def Gq {α:Type}(p:Rd α):Nat→List α→Rd (List α)
 | n,acc=>p.bind fun a=>(Re 3 [44]).bind fun b=>if b then(match n with
  | 0=>.fail 2
  | n+1=>(Mk 3 [44]).bind fun _=>Gq p n (acc++[a])) else .pure (acc++[a])
def X7 (E:Int):List Token→Int
 | []=>E
 | t::_=>t.At
def run {α:Type}(E:Int):PR α→R (α×List Token)
 | .ok x=>.ok x
 | .error (l,e)=>.pan ⟨64,.two .i64 .i64 (X7 E l) e⟩
theorem Ac3 {α:Type}(E:Int)(x:α×List Token):run E (.ok x:PR α)=.ok x:=rfl
def Lc {α:Type}(E:Int)(k:Nat)(l:List Token)(x:R α)(p:Rd α):Prop:=(x=(run E (p l)).bind fun y=>.ok y.1) ∧ ∀ a r,p l=.ok (a,r)→r=l.drop k
section
variable {α β:Type} {E:Int} {k:Nat} {l:List Token} {p:Rd α}
theorem Iv {x:R α}{H:α→R (β×List Token)}{f:α→Rd β}(hx:Lc E k l x p)(h : ∀ a,p l=.ok (a,l.drop k)→H a=run E (f a (l.drop k))):x.bind H=run E (p.bind f l):=by
 obtain⟨rfl,h2⟩:=hx
 unfold Rd.bind
 cases hp:p l with
 | error x=>rfl
 | ok y=>
  obtain⟨a,r⟩:=y
  have:=h2 a r hp
  subst this
  exact h a hp
theorem P6 {x:R (α×List Token)}{H:α×List Token→R (β×List Token)}{f:α→Rd β}(hx:x=run E (p l))(h : ∀ a r,p l=.ok (a,r)→H (a,r)=run E (f a r)):x.bind H=run E (p.bind f l):=by
 subst hx
 unfold Rd.bind
 cases hp:p l with
 | error x=>rfl
 | ok y=>exact h _ _ hp
theorem Li {m n:Nat}{x:R α}{H:α→R β}{f:α→Rd β}{l':List Token}(hn:n=k+m)(hl:l'=l.drop k)(hx:Lc E k l x p)(h : ∀ a,p l=.ok (a,l')→Lc E m l' (H a) (f a)):Lc E n l (x.bind H) (p.bind f):=by
 subst hl hn
 obtain⟨rfl,h2⟩:=hx
 unfold Lc Rd.bind
 cases hp:p l with
 | error x=>exact⟨rfl,fun _ _ h=>nomatch h⟩
 | ok y=>
  obtain⟨a,r⟩:=y
  have:=h2 a r hp
  subst this
  obtain⟨h3,h4⟩:=h a hp
  refine⟨h3,fun b r hr=>?_⟩
  rw [h4 b r hr,List.drop_drop]
theorem Ph (a:α):Lc E 0 l (.ok a) (Rd.pure a):=⟨rfl,fun _ _ h=>by cases h; rfl⟩
end
theorem I9 (e:Int)(l:List Token)(E:Int):Bi e l E=.pan ⟨64,.two .i64 .i64 (X7 E l) e⟩:=by
 unfold Bi
 cases l with
 | nil=>rfl
 | cons t l=>rw [if_pos (by simp only [List.length_cons]; omega)]; rfl
theorem Aen (r:T67)(e:Int):Le r e=.pan ⟨64,.two .i64 .i64 (X7 r.fEnd r.fL) e⟩:=by
 unfold Le
 cases h:r.fL with
 | nil=>rfl
 | cons t l=>rw [if_pos (by simp only [List.length_cons]; omega)]; rfl
theorem V9 (kind:Int)(q:Token→Bool)(l:List Token)(E:Int)(j:R Token)(hj:j=((Ef l 0).bind fun a2=>if(0:Int)≤1∧1≤(l.length:Int) then .ok a2 else .bad))  (c:Token→R Bool)(hc : ∀ t,c t=.ok (q t)) :
  ((if((l.length:Int)==0) then R.ok true else(Ef l 0).bind fun a=>R.ok (a.Kind != kind)).bind (fun(b:Bool)=>(if b then R.ok true else(Ef l 0).bind fun a1=>(c a1).bind fun r=>R.ok (!r)).bind (fun(b1:Bool)=>if b1 then((Bi 80 l E).bind fun _=>j) else j)))
   = (run E (Nw (fun t=>t.Kind==kind&&q t) l)).bind fun y=>.ok y.1:=by
 subst hj
 cases l with
 | nil=>rfl
 | cons t l=>
  have e:Ef (t::l) 0=.ok t:=rfl
  have e0:(((t::l).length:Int)==0)=false:=by simp only [List.length_cons,beq_eq_false_iff_ne]; omega
  have e1:(0:Int)≤1∧1≤((t::l).length:Int):=by simp only [List.length_cons]; omega
  simp only [e,e0,R.ok_bind,hc,I9,Nw,if_pos e1,Bool.false_eq_true,if_false]
  by_cases hk:t.Kind=kind
  ·have h1:(t.Kind==kind)=true:=by simp [hk]
   have h2:(t.Kind != kind)=false:=by simp [hk]
   simp only [h1,h2,Bool.false_eq_true,if_false,R.ok_bind,Bool.true_and]
   cases q t <;> rfl
  ·have h1:(t.Kind==kind)=false:=by simp [hk]
   have h2:(t.Kind != kind)=true:=by simp [hk]
   simp only [h1,h2,if_true,R.ok_bind,Bool.false_and]
   rfl
theorem Agv {q:Token→Bool}{l:List Token}{a:Token}{r:List Token}(h:Nw q l=.ok (a,r)):r=l.drop 1:=by
 cases l with
 | nil=>cases h
 | cons t l=>
  simp only [Nw] at h
  split at h
  ·cases h; rfl
  ·cases h
theorem Xu {α:Type}{E:Int}{l:List Token}{q:Token→Bool}{x:R Token}(f:Token→α)(hx:x=(run E (Nw q l)).bind fun y=>.ok y.1):Lc E 1 l (x.bind fun r=>.ok (f r)) ((Nw q).bind fun t=>.pure (f t)):=by
 subst hx
 unfold Lc Rd.bind
 cases h:Nw q l with
 | error x=>exact⟨rfl,fun _ _ h=>nomatch h⟩
 | ok y=>exact⟨rfl,fun a r h'=>by cases h'; exact Agv h⟩
theorem Qc (E:Int)(l:List Token):Lc E 1 l (Bz l E) Oq:=by
 have:=Xu (E:=E) (l:=l) (fun t=>t.Text) (V9 1 (fun _=>true) l E _ rfl Ji (fun _=>rfl))
 simp only [Bool.and_true] at this
 exact this
theorem Lq (E:Int)(w:Av)(l:List Token):Lc E 1 l (Ct w l E) (Mk 1 w):=
 Xu (E:=E) (l:=l) (fun _=>()) (V9 1 (fun t=>t.Text==w) l E _ rfl (fun t=>Jc t w) (fun _=>rfl))
theorem Vp (E:Int)(w:Av)(l:List Token):Lc E 1 l (B5 w l E) (Mk 3 w):=
 Xu (E:=E) (l:=l) (fun _=>()) (V9 3 (fun t=>t.Text==w) l E _ rfl (fun t=>Jj t w) (fun _=>rfl))
theorem Amn (n:Int):(Int.tmod n 1==0)=true:=by simp
theorem L9 (E lo hi:Int)(l:List Token):Lc E 1 l (C6 lo hi l E) (Om lo hi 1):=by
 have:=Xu (E:=E) (l:=l) (fun t=>t.N) (V9 2 (fun t=>decide (lo≤t.N)&&(decide (t.N≤hi)&&(Int.tmod t.N 1==0))) l E _ rfl (fun t=>Gd t lo hi) (fun t=>by simp only [Gd,Amn,Bool.and_true]))
 exact this
theorem Aga (k:Int)(w:Av)(l:List Token)(E:Int):E2 k w l E=.ok (match l with | []=>false | t::_=>Md k w t):=by
 unfold E2
 cases l with
 | nil=>rfl
 | cons t l=>
  have e:Ef (t::l) 0=.ok t:=rfl
  have e0:decide (((t::l).length:Int) > 0)=true:=by simp only [List.length_cons,decide_eq_true_eq]; omega
  simp only [e,e0,R.ok_bind,if_true,Md]
  cases t.Kind==k <;> rfl
theorem Aer {q:Token→Bool}{l:List Token}{a:Token}{r:List Token}(h:Nw q l=.ok (a,r)):l=a::r∧q a=true:=by
 cases l with
 | nil=>cases h
 | cons t l=>
  simp only [Nw] at h
  split at h
  ·rename_i hq; cases h; exact⟨rfl,hq⟩
  ·cases h
theorem Ab1 {α β:Type}{p:Rd α}{f:α→Rd β}{l:List Token}{b:β}{r:List Token}(h:p.bind f l=.ok (b,r)) : ∃ a m,p l=.ok (a,m)∧f a m=.ok (b,r):=by
 unfold Rd.bind at h
 cases hp:p l with
 | error x=>rw [hp] at h; cases h
 | ok y=>rw [hp] at h; exact⟨y.1,y.2,rfl,h⟩
theorem Akb {lo hi st:Int}{l:List Token}{a:Int}{r:List Token}(h:Om lo hi st l=.ok (a,r)) : ∃ t,l=t::r∧t.Kind=2∧t.N=a∧lo≤a∧a≤hi∧Int.tmod a st=0:=by
 obtain⟨t,m,h1,h2⟩:=Ab1 h
 cases h2
 obtain⟨rfl,hq⟩:=Aer h1
 simp only [Ah8,Bool.and_eq_true,decide_eq_true_eq,beq_iff_eq] at hq
 exact⟨t,rfl,hq.1,rfl,hq.2.1,hq.2.2.1,hq.2.2.2⟩
theorem Acr (E:Int)(l:List Token):Lc E 3 l (Gu l E) Pu:=by
 refine Li (m:=2) rfl rfl (L9 E 0 1439 l) fun a ha=>?_
 refine Li (m:=1) rfl rfl (Lq E _ _) fun _ _=>?_
 have e:IntKind.wrap .i64 (a+1)=a+1:=by
  obtain⟨t,_,_,_,h1,h2,_⟩:=Akb ha
  exact Z6 (by omega) (by omega)
 rw [e]
 exact Li (m:=0) rfl rfl (L9 E (a+1) 1440 _) fun b _=>Ph _
end Go.Am
namespace Go.Am
open Go
set_option linter.unusedVariables false
set_option linter.unusedSimpArgs false
def V6 (w:Av):Rd (List Span):=(Re 1 w).bind fun b=>if b then(Mk 1 w).bind fun _=>Gq Pu 15 [] else .pure []
def V5:Rd Mode:=(Mk 1 [109,111,100,101]).bind fun _=>Oq.bind fun n=>(Om 0 64 1).bind fun k=>.pure { Name:=n,Places:=k }
def Aa6 (s:Av):Rd Volume:=(V6 [99,108,111,115,101,100]).bind fun c=>.pure { Name:=s,Closed:=c }
def Aa5 (s:Av):Rd Sector:=(Mk 3 [61]).bind fun _=>(Gq Oq 63 []).bind fun ns=>(Mk 1 [114,97,100,97,114]).bind fun _=>(Om 0 64 1).bind fun a=>
 (Mk 1 [112,114,111,99,101,100,117,114,97,108]).bind fun _=>(Om 0 a 1).bind fun b=>.pure { Name:=s,Names:=ns,Volumes:=[],Radar:=a,Procedural:=b }
def Aa9 (s:Av):Rd Config:=(Mk 3 [61]).bind fun _=>(Gq Oq 63 []).bind fun ns=>.pure { Name:=s,Names:=ns,Sectors:=[] }
def Aar (s:Av):Rd Segment:=(Mk 1 [105,110]).bind fun _=>Oq.bind fun v=>(Mk 1 [108,101,110,103,116,104]).bind fun _=>(Om 1 4096 1).bind fun k=>
 (V6 [111,112,101,110]).bind fun o=>.pure { Name:=s,In:=v,Volume:=0,Length:=k,Open:=o }
def Aaq (s:Av):Rd Route:=(Mk 1 [102,114,111,109]).bind fun _=>Oq.bind fun a=>(Mk 1 [116,111]).bind fun _=>Oq.bind fun b=>(Mk 1 [118,105,97]).bind fun _=>
 (Gq Oq 7 []).bind fun ns=>.pure { Name:=s,A:=a,B:=b,From:=0,To:=0,Names:=ns,Segments:=[] }
def Aam (s:Av):Rd Airport:=(Gq V5 15 []).bind fun ms=>.pure { Name:=s,Modes:=ms }
def Aal (s:Av):Rd Class:=(Mk 1 [115,108,111,119]).bind fun _=>(Om 1 64 1).bind fun a=>(Mk 1 [102,97,115,116]).bind fun _=>(Om a 64 1).bind fun b=>
 (Mk 1 [112,108,97,99,101,115]).bind fun _=>(Om 1 8 1).bind fun c=>.pure { Name:=s,Slow:=a,Fast:=b,Places:=c }
def T9 (k:Int)(c a:Av)(n:Int)(h:Span):Rule:={ Kind:=k,C:=c,A:=a,Class:=0,Airport:=0,N:=n,Hours:=h }
def Aaz (s:Av):Rd Rule:=(Mk 1 [97,116]).bind fun _=>Oq.bind fun a=>Pu.bind fun h=>.pure (T9 1 s a 0 h)
def Adl (s:Av):Rd Rule:=.pure (T9 2 s [] 0 ⟨0,0⟩)
def Aa0 (s:Av):Rd Rule:=(Om 1 8 1).bind fun n=>.pure (T9 3 s [] n ⟨0,0⟩)
def Zb (s:Av):Rd Rule:=(Om 0 60 10).bind fun n=>.pure (T9 4 s [] n ⟨0,0⟩)
def F0 {α:Type}(p:Av→Rd α):Rd α:=Oq.bind fun n=>(p n).bind fun x=>(Mk 3 [59]).bind fun _=>.pure x
section
variable {α:Type} {E:Int}
theorem Xp {k sz most:Nat}{G:List Token→R α}{p:Rd α}(hG : ∀ l,Lc E k l (G l) p){b:List Token×List α→R ((List Token×List α) ⊕ (List α×List Token))}
  (hb : ∀ fL l1,b (fL,l1)=(G fL).bind fun r=>if(l1.length+1) * sz≤Ek then(E2 3 [44] (fL.drop k) E).bind fun r1=>if r1 then(if(((l1++[r]).length:Int)==most) then .pan ⟨64,.two .i64 .i64 (X7 E (fL.drop k)) 2⟩ else(B5 [44] (fL.drop k) E).bind fun _=>.ok (.inl ((fL.drop k).drop 1,l1++[r]))) else .ok (.inr (l1++[r],fL.drop k)) else .bad)
  (hs:most * sz≤Ek) : ∀ (n:Nat) (l:List Token) (acc:List α),acc.length+n+1=most→loop b (l,acc)=run E (Gq p n acc l):=by
 intro n
 induction n with
 | zero=>
  intro l acc hn
  rw [Rn,hb,Gq]
  obtain⟨h1,h2⟩:=hG l
  rw [h1]
  unfold Rd.bind
  cases hp:p l with
  | error x=>rfl
  | ok y=>
   obtain⟨a,r⟩:=y
   have:=h2 a r hp; subst this
   have e1:(acc.length+1) * sz≤Ek:=Nat.le_trans (Nat.mul_le_mul_right _ (by omega)) hs
   have e2:(((acc++[a]).length:Int)==most)=true:=by simp; omega
   simp only [Ac3,R.ok_bind,if_pos e1,Aga,e2,if_true]
   cases l.drop k with
   | nil=>rfl
   | cons t r=>
    cases h:Md 3 [44] t <;> simp only [Re,h,Bool.false_eq_true,if_false,if_true,R.ok_bind,R.pan_bind] <;> rfl
 | succ n ih=>
  intro l acc hn
  rw [Rn,hb,Gq]
  obtain⟨h1,h2⟩:=hG l
  rw [h1]
  unfold Rd.bind
  cases hp:p l with
  | error x=>rfl
  | ok y=>
   obtain⟨a,r⟩:=y
   have:=h2 a r hp; subst this
   have e1:(acc.length+1) * sz≤Ek:=Nat.le_trans (Nat.mul_le_mul_right _ (by omega)) hs
   have e2:(((acc++[a]).length:Int)==most)=false:=by simp; omega
   simp only [Ac3,R.ok_bind,if_pos e1,Aga,e2,Bool.false_eq_true,if_false]
   have e3:=(Vp E [44] (l.drop k)).1
   cases hd:l.drop k with
   | nil=>rfl
   | cons t r=>
    cases h:Md 3 [44] t
    ·simp only [Re,h,Bool.false_eq_true,if_false,R.ok_bind]; rfl
    ·rw [hd] at e3
     have e4:Mk 3 [44] (t::r)=.ok ((),r):=by simp only [Mk,Rd.bind,Nw,h,if_true]; rfl
     simp only [Re,h,if_true,e3,e4,Ac3,R.ok_bind,List.drop_one,List.tail_cons]
     exact ih r (acc++[a]) (by simp; omega)
end
theorem Ac6 (E:Int)(l:List Token)(v:List Volume):Eu 16 l E v=run E (Gq Pu 15 [] l):=by
 unfold Eu
 rw [Xp (k:=3) (sz:=16) (most:=16) (G:=fun l=>Gu l E) (p:=Pu) (Acr E) (fun fL l1=>?_) (by decide) 15 l [] rfl,R.bind_ok]
 simp only [Cz,Fs,Fq,I9,R.pan_bind,List.length_singleton,List.drop_drop]
 all_goals rfl
theorem Alf (E:Int)(l:List Token):Lc E 3 l (E8 l E) V5:=
 Li (m:=2) rfl rfl (Lq E _ l) fun _ _=>Li (m:=1) rfl rfl (Qc E _) fun _ _=>Li (m:=0) rfl rfl (L9 E 0 64 _) fun _ _=>Ph _
theorem Aeg (E:Int)(l:List Token)(v:List Volume):F9 16 l E v=run E (Gq V5 15 [] l):=by
 unfold F9
 rw [Xp (k:=3) (sz:=24) (most:=16) (G:=fun l=>E8 l E) (p:=V5) (Alf E) (fun fL l1=>?_) (by decide) 15 l [] rfl,R.bind_ok]
 simp only [Cz,Gh,Gj,I9,R.pan_bind,List.length_singleton,List.drop_drop]
 all_goals rfl
theorem Vf (E:Int)(m:Nat)(hm:(m+1) * 16≤Ek)(l:List Token)(v:List Volume):D1 ((m+1:Nat):Int) l E v=run E (Gq Oq m [] l):=by
 unfold D1
 rw [Xp (k:=1) (sz:=16) (most:=m+1) (G:=fun l=>Bz l E) (p:=Oq) (Qc E) (fun fL l1=>?_) hm m l [] (by simp),R.bind_ok]
 simp only [Cz,Fi,Fj,I9,R.pan_bind,List.length_singleton,List.drop_drop]
 all_goals rfl
end Go.Am
namespace Go.Am
open Go
set_option linter.unusedVariables false
set_option linter.unusedSimpArgs false
def Ts (w:Av)(A:Airspace):Option (Bool×Rd Airspace):=
 if w==[97,105,114,112,111,114,116] then some (decide (16≤A.Airports.length),(F0 Aam).bind fun x=>.pure { A with Airports:=A.Airports++[x] }) else
 if w==[99,108,97,115,115] then some (decide (8≤A.Classes.length),(F0 Aal).bind fun x=>.pure { A with Classes:=A.Classes++[x] }) else
 if w==[99,111,110,102,105,103] then some (decide (32≤A.Configs.length),(F0 Aa9).bind fun x=>.pure { A with Configs:=A.Configs++[x] }) else
 if w==[99,117,114,102,101,119] then some (decide (64≤A.Rules.length),(F0 Aaz).bind fun x=>.pure { A with Rules:=A.Rules++[x] }) else
 if w==[101,120,101,109,112,116] then some (decide (64≤A.Rules.length),(F0 Adl).bind fun x=>.pure { A with Rules:=A.Rules++[x] }) else
 if w==[108,111,110,103,101,115,116] then some (decide (64≤A.Rules.length),(F0 Zb).bind fun x=>.pure { A with Rules:=A.Rules++[x] }) else
 if w==[114,111,117,116,101] then some (decide (64≤A.Routes.length),(F0 Aaq).bind fun x=>.pure { A with Routes:=A.Routes++[x] }) else
 if w==[115,101,99,116,111,114] then some (decide (64≤A.Sectors.length),(F0 Aa5).bind fun x=>.pure { A with Sectors:=A.Sectors++[x] }) else
 if w==[115,101,103,109,101,110,116] then some (decide (128≤A.Segments.length),(F0 Aar).bind fun x=>.pure { A with Segments:=A.Segments++[x] }) else
 if w==[118,111,108,117,109,101] then some (decide (64≤A.Volumes.length),(F0 Aa6).bind fun x=>.pure { A with Volumes:=A.Volumes++[x] }) else
 if w==[119,101,105,103,104,116] then some (decide (64≤A.Rules.length),(F0 Aa0).bind fun x=>.pure { A with Rules:=A.Rules++[x] }) else
 none
def Pe (A:Airspace):Rd Airspace
 | []=>.error ([],80)
 | t::r=>if t.Kind==1 then(match Ts t.Text A with
  | none=>.error (t::r,80)
  | some (f,p)=>if f then .error (t::r,2) else p r) else .error (t::r,80)
theorem Ab8 (w:Av)(E:Int)(l:List Token)(v:List Volume):F3 w l E v=run E (V6 w l):=by
 unfold F3 V6
 rw [Aga]
 cases l with
 | nil=>rfl
 | cons t r=>
  show(if Md 1 w t=true then _ else _)=run E ((if Md 1 w t=true then(Mk 1 w).bind fun _=>Gq Pu 15 [] else .pure []) (t::r))
  split
  ·refine Iv (Lq E w _) fun _ _=>?_
   rw [show(Eu 16 (List.drop 1 (t::r)) E v)=run E (Gq Pu 15 [] (List.drop 1 (t::r))) from Ac6 E _ v]
   cases Gq Pu 15 [] (List.drop 1 (t::r)) <;> rfl
  ·rfl
theorem Al3 (s:Av)(E:Int)(l:List Token)(v:List Volume):Eo s l E v=run E (Aa6 s l):=by
 unfold Eo Aa6
 exact P6 (Ab8 _ E l v) fun a r _=>rfl
theorem Aly (s:Av)(E:Int)(l:List Token)(v:List Volume):Ev s l E v=run E (Aa5 s l):=by
 unfold Ev Aa5
 refine Iv (Vp E _ l) fun _ _=>P6 (Vf E 63 (by decide) _ v) fun ns r _=>?_
 exact Iv (Lq E _ r) fun _ _=>Iv (L9 E 0 64 _) fun a _=>Iv (Lq E _ _) fun _ _=>Iv (L9 E 0 a _) fun b _=>rfl
theorem Amb (s:Av)(E:Int)(l:List Token)(v:List Volume):Ep s l E v=run E (Aa9 s l):=by
 unfold Ep Aa9
 exact Iv (Vp E _ l) fun _ _=>P6 (Vf E 63 (by decide) _ v) fun ns r _=>rfl
theorem Ame (s:Av)(E:Int)(l:List Token)(v:List Volume):En s l E v=run E (Aar s l):=by
 unfold En Aar
 refine Iv (Lq E _ l) fun _ _=>Iv (Qc E _) fun a _=>Iv (Lq E _ _) fun _ _=>Iv (L9 E 1 4096 _) fun b _=>?_
 exact P6 (Ab8 _ E _ v) fun o r _=>rfl
theorem Alr (s:Av)(E:Int)(l:List Token)(v:List Volume):Er s l E v=run E (Aaq s l):=by
 unfold Er Aaq
 refine Iv (Lq E _ l) fun _ _=>Iv (Qc E _) fun a _=>Iv (Lq E _ _) fun _ _=>Iv (Qc E _) fun b _=>Iv (Lq E _ _) fun _ _=>?_
 exact P6 (Vf E 7 (by decide) _ v) fun o r _=>rfl
theorem Amd (s:Av)(E:Int)(l:List Token)(v:List Volume):Es s l E v=run E (Aam s l):=by
 unfold Es Aam
 exact P6 (Aeg E l v) fun ms r _=>rfl
theorem Agq (s:Av)(E:Int)(l:List Token):Lc E 6 l (E6 s l E) (Aal s):=
 Li (m:=5) rfl rfl (Lq E _ l) fun _ _=>Li (m:=4) rfl rfl (L9 E 1 64 _) fun a _=>Li (m:=3) rfl rfl (Lq E _ _) fun _ _=>Li (m:=2) rfl rfl (L9 E a 64 _) fun b _=>
  Li (m:=1) rfl rfl (Lq E _ _) fun _ _=>Li (m:=0) rfl rfl (L9 E 1 8 _) fun b _=>Ph _
theorem Aai {α:Type}{E:Int}{k:Nat}{l:List Token}{x:R α}{p:Rd α}(h:Lc E k l x p):Lc E k l (x.bind fun r=>.ok r) p:=by rw [R.bind_ok]; exact h
theorem Ahd (s:Av)(E:Int)(l:List Token):Lc E 5 l (Fc s 1 l E) (Aaz s):=
 Aai<|Li (m:=4) rfl rfl (Lq E _ l) fun _ _=>Li (m:=3) rfl rfl (Qc E _) fun a _=>Li (m:=0) rfl rfl (Acr E _) fun h _=>Ph _
theorem Ag4 (s:Av)(E:Int)(l:List Token):Lc E 1 l (Ff s 3 l E) (Aa0 s):=
 Aai<|Li (m:=0) rfl rfl (L9 E 1 8 l) fun _ _=>Ph _
theorem Ahh (s:Av)(E:Int)(l:List Token)(hl : ∀ t ∈ l,0≤t.N):Lc E 1 l (Fe s 4 l E) (Zb s):=by
 have hn:Lc E 1 l ((F8 2 l E).bind fun r=>.ok r.N) (Om 0 60 10):=by
  have h:=Xu (E:=E) (l:=l) (fun t=>t.N) (V9 2 (fun t=>decide (t.N≤60)&&(Int.tmod t.N 10==0)) l E _ rfl F2 (fun _=>rfl))
  have e:((Nw fun t=>t.Kind==2&&(decide (t.N≤60)&&(Int.tmod t.N 10==0))).bind fun t=>Rd.pure t.N) l=Om 0 60 10 l:=by
   unfold Om Rd.bind
   cases l with
   | nil=>rfl
   | cons t l=>
    have h0:decide (0≤t.N)=true:=decide_eq_true (hl t (List.mem_cons_self ..))
    simp only [Nw,Ah8,h0,Bool.true_and]
  unfold Lc at h ⊢
  rw [e] at h
  exact h
 have:Lc E (1+0) l (((F8 2 l E).bind fun r=>.ok r.N).bind fun n=>.ok (T9 4 s [] n ⟨0,0⟩)) (Zb s):=Li rfl rfl hn fun _ _=>Ph _
 rw [R.bind_assoc] at this
 exact Aai this
section
variable {α β:Type} {E:Int}
theorem T5 {item:Av→List Token→R (α×List Token)}{p:Av→Rd α}(hi : ∀ s l,item s l=run E (p s l))(acc:List α)(sz:Nat)(h:(acc.length+1) * sz≤Ek)(l:List Token) :
  ((Bz l E).bind fun r1=>(item r1 (l.drop 1)).bind fun r2=>(B5 [59] r2.2 E).bind fun _=>if(acc.length+[r2.1].length) * sz≤Ek then R.ok ((r2.2.drop 1),acc++[r2.1]) else .bad)=(run E (F0 p l)).bind fun x=>.ok (x.2,acc++[x.1]):=by
 have e:((Bz l E).bind fun r1=>(item r1 (l.drop 1)).bind fun r2=>(B5 [59] r2.2 E).bind fun _=>R.ok (r2.1,r2.2.drop 1))=run E (F0 p l):=
  Iv (Qc E l) fun a _=>P6 (hi a _) fun x r _=>Iv (Vp E _ r) fun _ _=>rfl
 rw [← e]
 simp only [R.bind_assoc,R.ok_bind,List.length_singleton,if_pos h]
theorem Pp {k:Nat}{item:Av→R α}{p:Av→Rd α}(acc:List α)(sz:Nat)(h:(acc.length+1) * sz≤Ek)(l:List Token)(hi : ∀ s,Lc E k (l.drop 1) (item s) (p s)) :
  ((Bz l E).bind fun r1=>(item r1).bind fun r2=>(B5 [59] ((l.drop 1).drop k) E).bind fun _=>if(acc.length+[r2].length) * sz≤Ek then R.ok (acc++[r2]) else .bad)=((run E (F0 p l)).bind fun x=>.ok (acc++[x.1])) ∧ ∀ x r,F0 p l=.ok (x,r)→r=l.drop (k+2):=by
 have e:Lc E (k+2) l ((Bz l E).bind fun r1=>(item r1).bind fun r2=>(B5 [59] ((l.drop 1).drop k) E).bind fun _=>R.ok r2) (F0 p):=
  Li (m:=k+1) (by omega) rfl (Qc E l) fun a _=>Li (m:=1) rfl rfl (hi a) fun x _=>Li (m:=0) rfl rfl (Vp E _ _) fun _ _=>Ph _
 refine⟨?_,e.2⟩
 have e1:=congrArg (fun z=>R.bind z fun x=>R.ok (acc++[x])) e.1
 simp only [R.bind_assoc,R.ok_bind] at e1
 rw [← e1]
 simp only [List.length_singleton,if_pos h]
end
end Go.Am
namespace Go.Am
open Go
set_option linter.unusedVariables false
set_option linter.unusedSimpArgs false
theorem Ali (E:Int)(t:Token)(r:List Token)(v:List Volume)(acc:List Airport)(h:acc.length≤16):H7 (t::r) E v acc=if 16≤acc.length then .pan ⟨64,.two .i64 .i64 t.At 2⟩ else(run E (F0 Aam r)).bind fun x=>.ok (x.2,acc++[x.1]):=by
 show(Ge 16 (t::r) E v acc).bind (fun r=>.ok r)=_
 rw [R.bind_ok]
 unfold Ge Gi
 by_cases hf:16≤acc.length
 ·have e:((acc.length:Int)==16)=true:=by rw [beq_iff_eq]; omega
  rw [if_pos hf]
  simp only [e,if_true,I9,R.pan_bind]
  rfl
 ·have e:((acc.length:Int)==16)=false:=by rw [beq_eq_false_iff_ne]; omega
  have e1:(0:Int)≤1∧1≤((t::r).length:Int):=by simp only [List.length_cons]; omega
  rw [if_neg hf]
  simp only [e,Bool.false_eq_true,if_false,if_pos e1]
  exact T5 (E:=E) (item:=fun s l=>Es s l E v) (fun s l=>Amd s E l v) acc 40 (by unfold Ek; omega) r
theorem Ak1 (E:Int)(t:Token)(r:List Token)(acc:List Class)(h:acc.length≤8):H2 (t::r) E acc=if 8≤acc.length then .pan ⟨64,.two .i64 .i64 t.At 2⟩ else(run E (F0 Aal r)).bind fun x=>.ok (acc++[x.1]):=by
 show(G3 8 (t::r) E acc).bind (fun r=>.ok r)=_
 rw [R.bind_ok]
 unfold G3 G8
 by_cases hf:8≤acc.length
 ·have e:((acc.length:Int)==8)=true:=by rw [beq_iff_eq]; omega
  rw [if_pos hf]
  simp only [e,if_true,I9,R.pan_bind]
  rfl
 ·have e:((acc.length:Int)==8)=false:=by rw [beq_eq_false_iff_ne]; omega
  have e1:(0:Int)≤1∧1≤((t::r).length:Int):=by simp only [List.length_cons]; omega
  rw [if_neg hf]
  simp only [e,Bool.false_eq_true,if_false,if_pos e1]
  have q:=(Pp (E:=E) (k:=6) (item:=fun s=>E6 s (r.drop 1) E) acc 40 (by unfold Ek; omega) r (fun s=>Agq s E _)).1
  have ee:Int.toNat 1=1:=rfl
  simp only [ee,List.drop_drop,Nat.reduceAdd] at q ⊢
  exact q
theorem Ajx (E:Int)(t:Token)(r:List Token)(v:List Volume)(acc:List Config)(h:acc.length≤32):H5 (t::r) E v acc=if 32≤acc.length then .pan ⟨64,.two .i64 .i64 t.At 2⟩ else(run E (F0 Aa9 r)).bind fun x=>.ok (x.2,acc++[x.1]):=by
 show(Gm 32 (t::r) E v acc).bind (fun r=>.ok r)=_
 rw [R.bind_ok]
 unfold Gm G1
 by_cases hf:32≤acc.length
 ·have e:((acc.length:Int)==32)=true:=by rw [beq_iff_eq]; omega
  rw [if_pos hf]
  simp only [e,if_true,I9,R.pan_bind]
  rfl
 ·have e:((acc.length:Int)==32)=false:=by rw [beq_eq_false_iff_ne]; omega
  have e1:(0:Int)≤1∧1≤((t::r).length:Int):=by simp only [List.length_cons]; omega
  rw [if_neg hf]
  simp only [e,Bool.false_eq_true,if_false,if_pos e1]
  exact T5 (E:=E) (item:=fun s l=>Ep s l E v) (fun s l=>Amb s E l v) acc 64 (by unfold Ek; omega) r
theorem Ake (E:Int)(t:Token)(r:List Token)(acc:List Rule)(h:acc.length≤64):Hy (t::r) E acc=if 64≤acc.length then .pan ⟨64,.two .i64 .i64 t.At 2⟩ else(run E (F0 Aaz r)).bind fun x=>.ok (acc++[x.1]):=by
 show((Hu 64 (t::r) E acc 1).bind (fun r=>.ok r)).bind (fun r=>.ok r)=_
 rw [R.bind_ok,R.bind_ok]
 unfold Hu H0
 by_cases hf:64≤acc.length
 ·have e:((acc.length:Int)==64)=true:=by rw [beq_iff_eq]; omega
  rw [if_pos hf]
  simp only [e,if_true,I9,R.pan_bind]
  rfl
 ·have e:((acc.length:Int)==64)=false:=by rw [beq_eq_false_iff_ne]; omega
  have e1:(0:Int)≤1∧1≤((t::r).length:Int):=by simp only [List.length_cons]; omega
  rw [if_neg hf]
  simp only [e,Bool.false_eq_true,if_false,if_pos e1]
  have q:=(Pp (E:=E) (k:=5) (item:=fun s=>Fc s 1 (r.drop 1) E) acc 80 (by unfold Ek; omega) r (fun s=>Ahd s E _)).1
  have ee:Int.toNat 1=1:=rfl
  simp only [ee,List.drop_drop,Nat.reduceAdd] at q ⊢
  exact q
theorem Akz (E:Int)(t:Token)(r:List Token)(acc:List Rule)(h:acc.length≤64):Hx (t::r) E acc=if 64≤acc.length then .pan ⟨64,.two .i64 .i64 t.At 2⟩ else(run E (F0 Adl r)).bind fun x=>.ok (acc++[x.1]):=by
 show((Hi 64 (t::r) E acc 2).bind (fun r=>.ok r)).bind (fun r=>.ok r)=_
 rw [R.bind_ok,R.bind_ok]
 unfold Hi H4
 by_cases hf:64≤acc.length
 ·have e:((acc.length:Int)==64)=true:=by rw [beq_iff_eq]; omega
  rw [if_pos hf]
  simp only [e,if_true,I9,R.pan_bind]
  rfl
 ·have e:((acc.length:Int)==64)=false:=by rw [beq_eq_false_iff_ne]; omega
  have e1:(0:Int)≤1∧1≤((t::r).length:Int):=by simp only [List.length_cons]; omega
  rw [if_neg hf]
  simp only [e,Bool.false_eq_true,if_false,if_pos e1]
  exact(Pp (E:=E) (k:=0) (item:=fun s=>(Gc s 2).bind fun _=>.ok (T9 2 s [] 0 ⟨0,0⟩)) acc 80 (by unfold Ek; omega) r (fun s=>Ph _)).1
theorem Ala (E:Int)(t:Token)(r:List Token)(hl : ∀ x ∈ r,0≤x.N)(acc:List Rule)(h:acc.length≤64):G9 (t::r) E acc=if 64≤acc.length then .pan ⟨64,.two .i64 .i64 t.At 2⟩ else(run E (F0 Zb r)).bind fun x=>.ok (acc++[x.1]):=by
 show((Hr 64 (t::r) E acc 4).bind (fun r=>.ok r)).bind (fun r=>.ok r)=_
 rw [R.bind_ok,R.bind_ok]
 unfold Hr Hv
 by_cases hf:64≤acc.length
 ·have e:((acc.length:Int)==64)=true:=by rw [beq_iff_eq]; omega
  rw [if_pos hf]
  simp only [e,if_true,I9,R.pan_bind]
  rfl
 ·have e:((acc.length:Int)==64)=false:=by rw [beq_eq_false_iff_ne]; omega
  have e1:(0:Int)≤1∧1≤((t::r).length:Int):=by simp only [List.length_cons]; omega
  rw [if_neg hf]
  simp only [e,Bool.false_eq_true,if_false,if_pos e1]
  have q:=(Pp (E:=E) (k:=1) (item:=fun s=>Fe s 4 (r.drop 1) E) acc 80 (by unfold Ek; omega) r (fun s=>Ahh s E _ (fun x hx=>hl x (List.mem_of_mem_drop hx)))).1
  have ee:Int.toNat 1=1:=rfl
  simp only [ee,List.drop_drop,Nat.reduceAdd] at q ⊢
  exact q
theorem Aj9 (E:Int)(t:Token)(r:List Token)(v:List Volume)(acc:List Route)(h:acc.length≤64):H8 (t::r) E v acc=if 64≤acc.length then .pan ⟨64,.two .i64 .i64 t.At 2⟩ else(run E (F0 Aaq r)).bind fun x=>.ok (x.2,acc++[x.1]):=by
 show(G6 64 (t::r) E v acc).bind (fun r=>.ok r)=_
 rw [R.bind_ok]
 unfold G6 Ha
 by_cases hf:64≤acc.length
 ·have e:((acc.length:Int)==64)=true:=by rw [beq_iff_eq]; omega
  rw [if_pos hf]
  simp only [e,if_true,I9,R.pan_bind]
  rfl
 ·have e:((acc.length:Int)==64)=false:=by rw [beq_eq_false_iff_ne]; omega
  have e1:(0:Int)≤1∧1≤((t::r).length:Int):=by simp only [List.length_cons]; omega
  rw [if_neg hf]
  simp only [e,Bool.false_eq_true,if_false,if_pos e1]
  exact T5 (E:=E) (item:=fun s l=>Er s l E v) (fun s l=>Alr s E l v) acc 112 (by unfold Ek; omega) r
theorem Akc (E:Int)(t:Token)(r:List Token)(v:List Volume)(acc:List Sector)(h:acc.length≤64):Hw (t::r) E v acc=if 64≤acc.length then .pan ⟨64,.two .i64 .i64 t.At 2⟩ else(run E (F0 Aa5 r)).bind fun x=>.ok (x.2,acc++[x.1]):=by
 show(Gp 64 (t::r) E v acc).bind (fun r=>.ok r)=_
 rw [R.bind_ok]
 unfold Gp G0
 by_cases hf:64≤acc.length
 ·have e:((acc.length:Int)==64)=true:=by rw [beq_iff_eq]; omega
  rw [if_pos hf]
  simp only [e,if_true,I9,R.pan_bind]
  rfl
 ·have e:((acc.length:Int)==64)=false:=by rw [beq_eq_false_iff_ne]; omega
  have e1:(0:Int)≤1∧1≤((t::r).length:Int):=by simp only [List.length_cons]; omega
  rw [if_neg hf]
  simp only [e,Bool.false_eq_true,if_false,if_pos e1]
  exact T5 (E:=E) (item:=fun s l=>Ev s l E v) (fun s l=>Aly s E l v) acc 80 (by unfold Ek; omega) r
theorem Aks (E:Int)(t:Token)(r:List Token)(v:List Volume)(acc:List Segment)(h:acc.length≤128):H1 (t::r) E v acc=if 128≤acc.length then .pan ⟨64,.two .i64 .i64 t.At 2⟩ else(run E (F0 Aar r)).bind fun x=>.ok (x.2,acc++[x.1]):=by
 show(Ga 128 (t::r) E v acc).bind (fun r=>.ok r)=_
 rw [R.bind_ok]
 unfold Ga Gg
 by_cases hf:128≤acc.length
 ·have e:((acc.length:Int)==128)=true:=by rw [beq_iff_eq]; omega
  rw [if_pos hf]
  simp only [e,if_true,I9,R.pan_bind]
  rfl
 ·have e:((acc.length:Int)==128)=false:=by rw [beq_eq_false_iff_ne]; omega
  have e1:(0:Int)≤1∧1≤((t::r).length:Int):=by simp only [List.length_cons]; omega
  rw [if_neg hf]
  simp only [e,Bool.false_eq_true,if_false,if_pos e1]
  exact T5 (E:=E) (item:=fun s l=>En s l E v) (fun s l=>Ame s E l v) acc 72 (by unfold Ek; omega) r
theorem Ak9 (E:Int)(t:Token)(r:List Token)(acc:List Volume)(h:acc.length≤64):Hz (t::r) E acc=if 64≤acc.length then .pan ⟨64,.two .i64 .i64 t.At 2⟩ else(run E (F0 Aa6 r)).bind fun x=>.ok (x.2,acc++[x.1]):=by
 show(Gn 64 (t::r) E acc).bind (fun r=>.ok r)=_
 rw [R.bind_ok]
 unfold Gn Gz
 by_cases hf:64≤acc.length
 ·have e:((acc.length:Int)==64)=true:=by rw [beq_iff_eq]; omega
  rw [if_pos hf]
  simp only [e,if_true,I9,R.pan_bind]
  rfl
 ·have e:((acc.length:Int)==64)=false:=by rw [beq_eq_false_iff_ne]; omega
  have e1:(0:Int)≤1∧1≤((t::r).length:Int):=by simp only [List.length_cons]; omega
  rw [if_neg hf]
  simp only [e,Bool.false_eq_true,if_false,if_pos e1]
  exact T5 (E:=E) (item:=fun s l=>Eo s l E acc) (fun s l=>Al3 s E l acc) acc 40 (by unfold Ek; omega) r
theorem Aj8 (E:Int)(t:Token)(r:List Token)(acc:List Rule)(h:acc.length≤64):He (t::r) E acc=if 64≤acc.length then .pan ⟨64,.two .i64 .i64 t.At 2⟩ else(run E (F0 Aa0 r)).bind fun x=>.ok (acc++[x.1]):=by
 show((Hn 64 (t::r) E acc 3).bind (fun r=>.ok r)).bind (fun r=>.ok r)=_
 rw [R.bind_ok,R.bind_ok]
 unfold Hn H3
 by_cases hf:64≤acc.length
 ·have e:((acc.length:Int)==64)=true:=by rw [beq_iff_eq]; omega
  rw [if_pos hf]
  simp only [e,if_true,I9,R.pan_bind]
  rfl
 ·have e:((acc.length:Int)==64)=false:=by rw [beq_eq_false_iff_ne]; omega
  have e1:(0:Int)≤1∧1≤((t::r).length:Int):=by simp only [List.length_cons]; omega
  rw [if_neg hf]
  simp only [e,Bool.false_eq_true,if_false,if_pos e1]
  have q:=(Pp (E:=E) (k:=1) (item:=fun s=>Ff s 3 (r.drop 1) E) acc 80 (by unfold Ek; omega) r (fun s=>Ag4 s E _)).1
  have ee:Int.toNat 1=1:=rfl
  simp only [ee,List.drop_drop,Nat.reduceAdd] at q ⊢
  exact q
end Go.Am
namespace Go.Am
open Go
set_option linter.unusedVariables false
set_option linter.unusedSimpArgs false
def tup (x:Airspace×List Token):List Token×List Volume×List Sector×List Config×List Segment×List Route×List Airport×List Class×List Rule:=
 (x.2,x.1.Volumes,x.1.Sectors,x.1.Configs,x.1.Segments,x.1.Routes,x.1.Airports,x.1.Classes,x.1.Rules)
def Aau (A:Airspace):Prop:=A.Volumes.length≤64∧A.Sectors.length≤64∧A.Configs.length≤32∧A.Segments.length≤128∧A.Routes.length≤64∧A.Airports.length≤16∧A.Classes.length≤8∧A.Rules.length≤64
section
variable {α β:Type} {E:Int} {t:Token} {r:List Token} {acc:List α} {c:Prop} [Decidable c] {p:Av→Rd α} {upd:α→Airspace}
theorem Rr {x:R (List Token×List α)}{F:List Token×List α→R (List Token×List Volume×List Sector×List Config×List Segment×List Route×List Airport×List Class×List Rule)}
  (hx:x=if c then .pan ⟨64,.two .i64 .i64 t.At 2⟩ else(run E (F0 p r)).bind fun y=>.ok (y.2,acc++[y.1])) (hF : ∀ y l,F (l,acc++[y])=.ok (tup (upd y,l))) :
  x.bind F=(run E (if decide c=true then .error (t::r,2) else((F0 p).bind fun y=>.pure (upd y)) r)).bind fun z=>.ok (tup z):=by
 subst hx
 by_cases hc:c
 ·rw [if_pos hc,if_pos (decide_eq_true hc)]; rfl
 ·rw [if_neg hc,if_neg (by simpa using hc)]
  unfold Rd.bind
  cases F0 p r with
  | error e=>rfl
  | ok y=>exact hF _ _
theorem Vx {m:Nat}{x:R (List α)}{F:List α→R (List Token×List Volume×List Sector×List Config×List Segment×List Route×List Airport×List Class×List Rule)}
  (hx:x=if c then .pan ⟨64,.two .i64 .i64 t.At 2⟩ else(run E (F0 p r)).bind fun y=>.ok (acc++[y.1])) (hr : ∀ y q,F0 p r=.ok (y,q)→q=r.drop m) (hF : ∀ y,F (acc++[y])=.ok (tup (upd y,r.drop m))) :
  x.bind F=(run E (if decide c=true then .error (t::r,2) else((F0 p).bind fun y=>.pure (upd y)) r)).bind fun z=>.ok (tup z):=by
 subst hx
 by_cases hc:c
 ·rw [if_pos hc,if_pos (decide_eq_true hc)]; rfl
 ·rw [if_neg hc,if_neg (by simpa using hc)]
  unfold Rd.bind
  cases h:F0 p r with
  | error e=>rfl
  | ok y=>
   obtain⟨y,q⟩:=y
   have:=hr y q h
   subst this
   exact hF _
end
theorem Ah1 (r:List Token) : ∀ x q,F0 Aal r=.ok (x,q)→q=r.drop 8:=
 (Pp (E:=0) (k:=6) (item:=fun s=>E6 s (r.drop 1) 0) ([]:List Class) 80 (by decide) r (fun s=>Agq s 0 _)).2
theorem Ajd (r:List Token) : ∀ x q,F0 Aaz r=.ok (x,q)→q=r.drop 7:=
 (Pp (E:=0) (k:=5) (item:=fun s=>Fc s 1 (r.drop 1) 0) ([]:List Rule) 80 (by decide) r (fun s=>Ahd s 0 _)).2
theorem Aji (r:List Token) : ∀ x q,F0 Adl r=.ok (x,q)→q=r.drop 2:=
 (Pp (E:=0) (k:=0) (item:=fun s=>(Gc s 2).bind fun _=>.ok (T9 2 s [] 0 ⟨0,0⟩)) ([]:List Rule) 80 (by decide) r (fun s=>Ph _)).2
theorem Aiy (r:List Token)(hl : ∀ x ∈ r,0≤x.N) : ∀ x q,F0 Zb r=.ok (x,q)→q=r.drop 3:=
 (Pp (E:=0) (k:=1) (item:=fun s=>Fe s 4 (r.drop 1) 0) ([]:List Rule) 80 (by decide) r (fun s=>Ahh s 0 _ (fun x hx=>hl x (List.mem_of_mem_drop hx)))).2
theorem Aim (r:List Token) : ∀ x q,F0 Aa0 r=.ok (x,q)→q=r.drop 3:=
 (Pp (E:=0) (k:=1) (item:=fun s=>Ff s 3 (r.drop 1) 0) ([]:List Rule) 80 (by decide) r (fun s=>Ag4 s 0 _)).2
theorem Aj1 (E:Int)(A:Airspace)(hA:Aau A)(t:Token)(r:List Token)(hl : ∀ x ∈ r,0≤x.N):E9 (t::r) E A.Volumes A.Sectors A.Configs A.Segments A.Routes A.Airports A.Classes A.Rules=(run E (Pe A (t::r))).bind fun x=>.ok (tup x):=by
 obtain⟨hVolumes,hSectors,hConfigs,hSegments,hRoutes,hAirports,hClasses,hRules⟩:=hA
 have e:Ef (t::r) 0=.ok t:=rfl
 have e1:Pe A (t::r)=(if(t.Kind==1)=true then(match Ts t.Text A with | none=>.error (t::r,80) | some (f,p)=>if f=true then .error (t::r,2) else p r) else .error (t::r,80)):=rfl
 rw [e1]
 unfold E9 Ts
 rw [e,R.ok_bind]
 by_cases hk:(t.Kind==1)=true
 ·rw [if_pos hk,if_pos hk]
  by_cases hair:(t.Text==[97,105,114,112,111,114,116])=true
  ·rw [if_pos hair,if_pos hair]
   exact Rr (upd:=fun x=>{ A with Airports:=A.Airports++[x] }) (Ali E t r A.Volumes A.Airports hAirports) (fun _ _=>rfl)
  rw [if_neg hair,if_neg hair]
  by_cases hcla:(t.Text==[99,108,97,115,115])=true
  ·rw [if_pos hcla,if_pos hcla]
   exact Vx (upd:=fun x=>{ A with Classes:=A.Classes++[x] }) (Ak1 E t r A.Classes hClasses) (Ah1 r) (fun _=>by simp only [show Int.toNat 1=1 from rfl,List.drop_drop,Nat.reduceAdd]; rfl)
  rw [if_neg hcla,if_neg hcla]
  by_cases hcon:(t.Text==[99,111,110,102,105,103])=true
  ·rw [if_pos hcon,if_pos hcon]
   exact Rr (upd:=fun x=>{ A with Configs:=A.Configs++[x] }) (Ajx E t r A.Volumes A.Configs hConfigs) (fun _ _=>rfl)
  rw [if_neg hcon,if_neg hcon]
  by_cases hcur:(t.Text==[99,117,114,102,101,119])=true
  ·rw [if_pos hcur,if_pos hcur]
   exact Vx (upd:=fun x=>{ A with Rules:=A.Rules++[x] }) (Ake E t r A.Rules hRules) (Ajd r) (fun _=>by simp only [show Int.toNat 1=1 from rfl,List.drop_drop,Nat.reduceAdd]; rfl)
  rw [if_neg hcur,if_neg hcur]
  by_cases hexe:(t.Text==[101,120,101,109,112,116])=true
  ·rw [if_pos hexe,if_pos hexe]
   exact Vx (upd:=fun x=>{ A with Rules:=A.Rules++[x] }) (Akz E t r A.Rules hRules) (Aji r) (fun _=>by simp only [show Int.toNat 1=1 from rfl,List.drop_drop,Nat.reduceAdd]; rfl)
  rw [if_neg hexe,if_neg hexe]
  by_cases hlon:(t.Text==[108,111,110,103,101,115,116])=true
  ·rw [if_pos hlon,if_pos hlon]
   exact Vx (upd:=fun x=>{ A with Rules:=A.Rules++[x] }) (Ala E t r hl A.Rules hRules) (Aiy r hl) (fun _=>by simp only [show Int.toNat 1=1 from rfl,List.drop_drop,Nat.reduceAdd]; rfl)
  rw [if_neg hlon,if_neg hlon]
  by_cases hrou:(t.Text==[114,111,117,116,101])=true
  ·rw [if_pos hrou,if_pos hrou]
   exact Rr (upd:=fun x=>{ A with Routes:=A.Routes++[x] }) (Aj9 E t r A.Volumes A.Routes hRoutes) (fun _ _=>rfl)
  rw [if_neg hrou,if_neg hrou]
  by_cases hsec:(t.Text==[115,101,99,116,111,114])=true
  ·rw [if_pos hsec,if_pos hsec]
   exact Rr (upd:=fun x=>{ A with Sectors:=A.Sectors++[x] }) (Akc E t r A.Volumes A.Sectors hSectors) (fun _ _=>rfl)
  rw [if_neg hsec,if_neg hsec]
  by_cases hseg:(t.Text==[115,101,103,109,101,110,116])=true
  ·rw [if_pos hseg,if_pos hseg]
   exact Rr (upd:=fun x=>{ A with Segments:=A.Segments++[x] }) (Aks E t r A.Volumes A.Segments hSegments) (fun _ _=>rfl)
  rw [if_neg hseg,if_neg hseg]
  by_cases hvol:(t.Text==[118,111,108,117,109,101])=true
  ·rw [if_pos hvol,if_pos hvol]
   exact Rr (upd:=fun x=>{ A with Volumes:=A.Volumes++[x] }) (Ak9 E t r A.Volumes hVolumes) (fun _ _=>rfl)
  rw [if_neg hvol,if_neg hvol]
  by_cases hwei:(t.Text==[119,101,105,103,104,116])=true
  ·rw [if_pos hwei,if_pos hwei]
   exact Vx (upd:=fun x=>{ A with Rules:=A.Rules++[x] }) (Aj8 E t r A.Rules hRules) (Aim r) (fun _=>by simp only [show Int.toNat 1=1 from rfl,List.drop_drop,Nat.reduceAdd]; rfl)
  rw [if_neg hwei,if_neg hwei]
  unfold El
  rw [Aen]; rfl
 ·rw [if_neg hk,if_neg hk]
  unfold El
  rw [Aen]; rfl
end Go.Am
namespace Go.Am
open Go
set_option linter.unusedVariables false
set_option linter.unusedSimpArgs false
def Jq {α:Type}(p:Rd α):Prop := ∀ l a q,p l=.ok (a,q)→q <:+ l
section
variable {α β:Type}
theorem Ca {p:Rd α}{f:α→Rd β}(hp:Jq p)(hf : ∀ a,Jq (f a)):Jq (p.bind f):=fun l b q h=>by
 obtain⟨a,m,h1,h2⟩:=Ab1 h
 exact(hf a m b q h2).trans (hp l a m h1)
theorem E4 (a:α):Jq (Rd.pure a):=fun l b q h=>by cases h; exact List.suffix_refl _
theorem Aid (e:Int):Jq (Rd.fail e:Rd α):=fun l b q h=>nomatch h
theorem Yl (q:Token→Bool):Jq (Nw q):=fun l a r h=>by
 obtain⟨rfl,_⟩:=Aer h
 exact List.suffix_cons _ _
theorem Add (k:Int)(w:Av):Jq (Re k w):=fun l a r h=>by
 cases l with
 | nil=>cases h; exact List.suffix_refl _
 | cons t l=>cases h; exact List.suffix_refl _
theorem Ob:Jq Oq:=Ca (Yl _) fun _=>E4 _
theorem Kp (k:Int)(w:Av):Jq (Mk k w):=Ca (Yl _) fun _=>E4 _
theorem Nz (a b c:Int):Jq (Om a b c):=Ca (Yl _) fun _=>E4 _
theorem Abi:Jq Pu:=Ca (Nz _ _ _) fun _=>Ca (Kp _ _) fun _=>Ca (Nz _ _ _) fun _=>E4 _
theorem Pj {p:Rd α}(hp:Jq p) : ∀ (n:Nat) (acc:List α),Jq (Gq p n acc)
 | 0,acc=>by
  rw [Gq]
  refine Ca hp fun a=>Ca (Add _ _) fun b=>?_
  cases b
  ·exact E4 _
  ·exact Aid _
 | n+1,acc=>by
  rw [Gq]
  refine Ca hp fun a=>Ca (Add _ _) fun b=>?_
  cases b
  ·exact E4 _
  ·exact Ca (Kp _ _) fun _=>Pj hp n _
theorem Abl (w:Av):Jq (V6 w):=Ca (Add _ _) fun b=>by
 cases b
 ·exact E4 _
 ·exact Ca (Kp _ _) fun _=>Pj Abi _ _
theorem Ais:Jq V5:=Ca (Kp _ _) fun _=>Ca Ob fun _=>Ca (Nz _ _ _) fun _=>E4 _
theorem Akl (s:Av):Jq (Aa6 s):=Ca (Abl _) fun _=>E4 _
theorem Ale (s:Av):Jq (Aa5 s):=Ca (Kp _ _) fun _=>Ca (Pj Ob _ _) fun _=>Ca (Kp _ _) fun _=>Ca (Nz _ _ _) fun _=>Ca (Kp _ _) fun _=>Ca (Nz _ _ _) fun _=>E4 _
theorem Aj7 (s:Av):Jq (Aa9 s):=Ca (Kp _ _) fun _=>Ca (Pj Ob _ _) fun _=>E4 _
theorem Akp (s:Av):Jq (Aar s):=Ca (Kp _ _) fun _=>Ca Ob fun _=>Ca (Kp _ _) fun _=>Ca (Nz _ _ _) fun _=>Ca (Abl _) fun _=>E4 _
theorem Aj2 (s:Av):Jq (Aaq s):=Ca (Kp _ _) fun _=>Ca Ob fun _=>Ca (Kp _ _) fun _=>Ca Ob fun _=>Ca (Kp _ _) fun _=>Ca (Pj Ob _ _) fun _=>E4 _
theorem Akh (s:Av):Jq (Aam s):=Ca (Pj Ais _ _) fun _=>E4 _
theorem Ak8 (s:Av):Jq (Aal s):=Ca (Kp _ _) fun _=>Ca (Nz _ _ _) fun _=>Ca (Kp _ _) fun _=>Ca (Nz _ _ _) fun _=>Ca (Kp _ _) fun _=>Ca (Nz _ _ _) fun _=>E4 _
theorem Ak2 (s:Av):Jq (Aaz s):=Ca (Kp _ _) fun _=>Ca Ob fun _=>Ca Abi fun _=>E4 _
theorem Aj0 (s:Av):Jq (Adl s):=E4 _
theorem Akk (s:Av):Jq (Aa0 s):=Ca (Nz _ _ _) fun _=>E4 _
theorem Ak7 (s:Av):Jq (Zb s):=Ca (Nz _ _ _) fun _=>E4 _
theorem Akg {p:Av→Rd α}(hp : ∀ s,Jq (p s)):Jq (F0 p):=Ca Ob fun s=>Ca (hp s) fun _=>Ca (Kp _ _) fun _=>E4 _
end
theorem Fb {c:Prop}[Decidable c]{α:Type}{a b:Option α}{y:α}(h:(if c then a else b)=some y):a=some y∨b=some y:=by
 by_cases hc:c
 ·rw [if_pos hc] at h; exact .inl h
 ·rw [if_neg hc] at h; exact .inr h
theorem Aj6 {w:Av}{A:Airspace}{f:Bool}{p:Rd Airspace}(h:Ts w A=some (f,p)):Jq p∧(Aau A→f=false → ∀ l B q,p l=.ok (B,q)→Aau B):=by
 unfold Ts at h
 refine(Fb h).elim (fun h=>?_) (fun h=>(Fb h).elim (fun h=>?_) (fun h=>(Fb h).elim (fun h=>?_) (fun h=>(Fb h).elim (fun h=>?_) (fun h=>(Fb h).elim (fun h=>?_) (fun h=>(Fb h).elim (fun h=>?_) (fun h=>(Fb h).elim (fun h=>?_) (fun h=>(Fb h).elim (fun h=>?_) (fun h=>(Fb h).elim (fun h=>?_) (fun h=>(Fb h).elim (fun h=>?_) (fun h=>(Fb h).elim (fun h=>?_) (fun h=>nomatch h)))))))))))
 all_goals
  cases h
  refine⟨Ca (Akg (by first | exact Akh | exact Ak8 | exact Aj7 | exact Ak2 | exact Aj0 | exact Ak7 | exact Aj2 | exact Ale | exact Akp | exact Akl | exact Akk)) fun _=>E4 _,fun hF hf l B q hB=>?_⟩
  obtain⟨x,m,_,h2⟩:=Ab1 hB
  cases h2
  obtain⟨h1,h2,h3,h4,h5,h6,h7,h8⟩:=hF
  have hf:=of_decide_eq_false hf
  refine⟨?_,?_,?_,?_,?_,?_,?_,?_⟩ <;> first | assumption | (simp only [List.length_append,List.length_singleton]; omega)
theorem Aiq {A:Airspace}{t:Token}{r:List Token}{B:Airspace}{q:List Token}(hA:Aau A)(h:Pe A (t::r)=.ok (B,q)):Aau B∧q <:+ r:=by
 simp only [Pe] at h
 split at h
 ·cases hi:Ts t.Text A with
  | none=>rw [hi] at h; cases h
  | some x=>
   obtain⟨f,p⟩:=x
   rw [hi] at h
   simp only at h
   cases f
   ·obtain⟨h1,h2⟩:=Aj6 hi
    exact⟨h2 hA rfl r B q h,h1 r B q h⟩
   ·cases h
 ·cases h
def P7:Nat→Airspace→List Token→Except (List Token×Int) Airspace
 | _,A,[]=>.ok A
 | 0,A,t::r=>.error (t::r,0)
 | n+1,A,t::r=>match Pe A (t::r) with
  | .error e=>.error e
  | .ok (B,q)=>P7 n B q
def Zw:Airspace:={ Volumes:=[],Sectors:=[],Configs:=[],Segments:=[],Routes:=[],Airports:=[],Classes:=[],Rules:=[] }
def Wa (l:List Token):Except (List Token×Int) Airspace:=P7 l.length Zw l
def ps (A:Airspace)(l:List Token):=(l,A.Airports,A.Classes,A.Configs,A.Rules,A.Routes,A.Sectors,A.Segments,A.Volumes)
theorem Afz (src:Av) : ∀ (n:Nat) (A:Airspace) (l:List Token),l.length≤n→Aau A→(∀ x ∈ l,0≤x.N) →
  loop (Yz fun fL l l1 l2 l3 l4 l5 l6 l7=>Iq src fL l l1 l2 l3 l4 l5 l6 l7) (ps A l)=match P7 n A l with
   | .ok B=>.ok (ps B [])
   | .error (q,e)=>.pan ⟨64,.two .i64 .i64 (X7 (src.length:Int) q) e⟩:=by
 intro n
 induction n with
 | zero=>
  intro A l hl hA hN
  have:l=[]:=List.length_eq_zero_iff.1 (by omega)
  subst this
  rw [Rn]; rfl
 | succ n ih=>
  intro A l hl hA hN
  rw [Rn]
  cases l with
  | nil=>rfl
  | cons t r=>
   have e1:((t::r).length:Int) > 0:=by simp only [List.length_cons]; omega
   have hb:(Yz fun fL l l1 l2 l3 l4 l5 l6 l7=>Iq src fL l l1 l2 l3 l4 l5 l6 l7) (ps A (t::r))=(run (src.length:Int) (Pe A (t::r))).bind fun x=>.ok (.inl (ps x.1 x.2)):=by
    show Iq src (t::r) A.Airports A.Classes A.Configs A.Rules A.Routes A.Sectors A.Segments A.Volumes=_
    unfold Iq
    rw [if_pos e1,Aj1 _ A hA t r fun x hx=>hN x (List.mem_cons_of_mem _ hx),R.bind_assoc]
    rfl
   rw [hb,P7]
   cases hd:Pe A (t::r) with
   | error e=>rfl
   | ok y=>
    obtain⟨B,q⟩:=y
    obtain⟨hB,hq⟩:=Aiq hA hd
    exact ih B q (by have:=hq.length_le; simp only [List.length_cons] at hl; omega) hB fun x hx=>hN x (List.mem_cons_of_mem _ (hq.subset hx))
def Agc (E:Int):Except (List Token×Int) Airspace→Airspace×Int×Int
 | .ok A=>(A,0,0)
 | .error (q,e)=>(Zw,X7 E q,e)
def P3 (s:Av):Airspace×Int×Int:=if(F4 s).2.2=0 then Agc (s.length:Int) (Wa (F4 s).1) else(Zw,(F4 s).2.1,(F4 s).2.2)
theorem Ah5 {s:Av}(hN : ∀ x ∈ (F4 s).1,0≤x.N):Gl s=.ok (P3 s):=by
 unfold Gl Pa P3
 rw [Agu,show(R.ok (F4 s)).np=R.ok (F4 s) from rfl,R.ok_bind]
 by_cases h:(F4 s).2.2=0
 ·rw [if_pos h,show((F4 s).2.2 != 0)=false by rw [h]; rfl]
  have:=Afz s _ Zw (F4 s).1 (Nat.le_refl _) ⟨by decide,by decide,by decide,by decide,by decide,by decide,by decide,by decide⟩ hN
  simp only [Bool.false_eq_true,if_false]
  rw [show((F4 s).1,([]:List Airport),([]:List Class),([]:List Config),([]:List Rule),([]:List Route),([]:List Sector),([]:List Segment),([]:List Volume))=ps Zw (F4 s).1 from rfl,this]
  unfold Wa
  cases P7 (F4 s).1.length Zw (F4 s).1 with
  | ok B=>rfl
  | error x=>rfl
 ·rw [if_neg h,if_pos (by simpa using h)]; rfl
end Go.Am
namespace Go.Am
open Go
set_option linter.unusedVariables false
set_option linter.unusedSimpArgs false
section
variable {E:Int} {L:List Token} (hL:L.length≤65536)
theorem Uh {α:Type}(q:Token→Bool)(f:Token→α)(t:Token)(r:List Token):((Nw q).bind fun t=>.pure (f t)) (t::r)=if q t=true then .ok (f t,r) else .error (t::r,80):=by
 by_cases h:q t=true
 ·rw [if_pos h]; simp only [Rd.bind,Nw,h,if_true]; rfl
 ·rw [if_neg h]; simp only [Rd.bind,Nw,h]; rfl
theorem Ah9 (k:Int)(w:Av)(t:Token)(r:List Token):Mk k w (t::r)=if Md k w t=true then .ok ((),r) else .error (t::r,80):=Uh _ _ t r
include hL
omit hL
include hL
end
end Go.Am
namespace Go.Am
open Go
set_option linter.unusedVariables false
set_option linter.unusedSimpArgs false
end Go.Am
namespace Go.Am
open Go
set_option linter.unusedVariables false
set_option linter.unusedSimpArgs false
set_option linter.unusedSectionVars false
end Go.Am
namespace Go.Am
open Go
set_option linter.unusedVariables false
set_option linter.unusedSimpArgs false
end Go.Am
namespace Go.Am
open Go
set_option linter.unusedVariables false
set_option linter.unusedSimpArgs false
theorem Am2 {c:UInt8}{s:Av}{t:Token}{k:Nat}(h:tk c s=some (some t,k)):0≤t.N:=by
 unfold tk at h
 repeat' split at h
 all_goals first
  | (simp only [Option.some.injEq,Prod.mk.injEq,reduceCtorEq,false_and] at h; done)
  | (simp only [Option.some.injEq,Prod.mk.injEq] at h; obtain⟨rfl,_⟩:=h; simp; done)
  | (exfalso; exact nomatch h)
theorem Abf : ∀ (n:Nat) (s:Av) (p:Nat) (l:List Token),s.length≤n→L0 s p=.ok l→l.length≤s.length ∧ ∀ t ∈ l,0≤t.N
 | n,[],p,l,_,h=>by rw [Wc] at h; cases h; exact⟨Nat.le_refl _,fun _ h=>nomatch h⟩
 | 0,_::_,_,_,hn,_=>by simp at hn
 | n+1,c::s,p,l,hn,h=>by
  rw [Qf] at h
  cases ht:tk c s with
  | none=>rw [ht] at h; cases h
  | some x=>
   obtain⟨o,k⟩:=x
   rw [ht] at h
   simp only at h
   cases hr:L0 (s.drop k) (p+1+k) with
   | wrong e=>rw [hr] at h; cases h
   | ok l'=>
    rw [hr] at h
    simp only [List.length_cons] at hn
    obtain⟨h1,h2⟩:=Abf n (s.drop k) (p+1+k) l' (by rw [List.length_drop]; omega) hr
    cases h
    rw [List.length_drop] at h1
    cases o with
    | none=>exact⟨by simp; omega,h2⟩
    | some t=>
     refine⟨by simp; omega,fun u hu=>?_⟩
     rcases List.mem_cons.1 hu with rfl | hu
     ·show 0≤t.N
      exact Am2 ht
     ·exact h2 u hu
theorem Ad1 (s:Av):(F4 s).1.length≤65536∧(F4 s).1.length≤s.length ∧ ∀ t ∈ (F4 s).1,0≤t.N:=by
 unfold F4
 split
 ·cases h:L0 s 0 with
  | wrong e=>exact⟨Nat.zero_le _,Nat.zero_le _,fun _ h=>nomatch h⟩
  | ok l=>
   obtain⟨h1,h2⟩:=Abf _ s 0 l (Nat.le_refl _) h
   exact⟨Nat.le_trans h1 ‹_›,h1,h2⟩
 ·exact⟨Nat.zero_le _,Nat.zero_le _,fun _ h=>nomatch h⟩
theorem Zc (s:Av):Gl s=.ok (P3 s):=Ah5 (Ad1 s).2.2
set_option maxRecDepth 100000 in
theorem Ah6 : Qz = .ok true := by
 unfold Qz
 simp only [Zc, R.ok_bind]
 decide +kernel
end Go.Am
namespace Go.Am
open Go
set_option linter.unusedVariables false
set_option linter.unusedSimpArgs false
end Go.Am
namespace Go.Am
open Go
set_option linter.unusedVariables false
set_option linter.unusedSimpArgs false
def Ajg {α β:Type}(q:α→β→Bool):List α→List β→Bool
 | [],[]=>true
 | a::l,b::m=>q a b&&Ajg q l m
 | _,_=>false
def key (a b:Token):Bool:=(a.Kind==b.Kind)&&(a.Text==b.Text)&&(a.N==b.N)
def same (a b:List Token):Bool:=Ajg key a b
def equal (a b:List Token):Bool:=same a b&&Ajg (fun x y:Token=>x.At==y.At) a b
end Go.Am
namespace Go.Am
open Go
set_option linter.unusedVariables false
set_option linter.unusedSimpArgs false
end Go.Am
namespace Go.Am
open Go
set_option linter.unusedVariables false
set_option linter.unusedSimpArgs false
theorem Yb {α:Type}(q:α→Bool) : ∀ (s:List α) (m:Nat),(s.takeWhile q).length≤m→(s.take m).takeWhile q=s.takeWhile q
 | [],m,_=>by simp
 | a::s,0,h=>by
  rw [List.takeWhile_cons] at h ⊢
  cases hq:q a
  ·rfl
  ·rw [hq] at h; simp at h
 | a::s,m+1,h=>by
  rw [List.take_succ_cons,List.takeWhile_cons,List.takeWhile_cons]
  rw [List.takeWhile_cons] at h
  cases hq:q a
  ·rfl
  ·rw [hq] at h
   rw [Yb q s m (by simpa using h)]
theorem Aki {c:UInt8}{s:Av}{o:Option Token}{k m:Nat}(h:tk c s=some (o,k))(hm:k≤m):tk c (s.take m)=some (o,k):=by
 revert h
 unfold tk
 have hh:(s.take m).head? = some 47→s.head? = some 47:=by
  cases s with
  | nil=>simp
  | cons a s=>cases m with | zero=>simp | succ m=>simp
 have hh2:1≤m→(s.take m).head? = s.head? := by
  intro h1
  cases s with
  | nil=>simp
  | cons a s=>cases m with | zero=>omega | succ m=>simp
 split
 ·exact id
 ·split
  ·intro h
   split at h
   ·cases h
    rw [Yb Ix s m hm]
    rename_i h5
    rw [if_pos h5]
   ·cases h
  ·split
   ·intro h
    split at h
    ·cases h
     rw [Yb Fo s m hm]
     rename_i h5
     rw [if_pos h5]
    ·cases h
   ·split
    ·intro h
     split at h
     ·rename_i hc
      cases h
      have h1:1≤(s.takeWhile (· != 10)).length:=by
       cases s with
       | nil=>simp at hc
       | cons a s=>
        have:a=47:=by simpa using hc.2
        subst this
        rw [List.takeWhile_cons,if_pos (by rfl)]; simp
      rw [hh2 (by omega),if_pos hc,Yb _ s m hm]
     ·rename_i hc
      cases h
      rw [if_neg (fun e=>hc ⟨e.1,hh e.2⟩)]
    ·exact id
def Lx.pre (l:List Token):Lx→Lx
 | .ok r=>.ok (l++r)
 | .wrong e=>.wrong e
def Lx.seq (x:Lx)(y:Lx):Lx:=match x with
 | .ok l=>y.pre l
 | .wrong e=>.wrong e
theorem Aem : ∀ (n:Nat) (s:Av) (p:Nat) (l:List Token),s.length≤n→L0 s p=.ok l → ∀ t ∈ l,∃ m:Nat,t.At=(m:Int)∧p≤m∧m<p+s.length
 | n,[],p,l,_,h=>by rw [Wc] at h; cases h; intro t ht; cases ht
 | 0,_::_,p,l,h,_=>by simp at h
 | n+1,c::s,p,l,hn,h=>by
  rw [Qf] at h
  cases ht:tk c s with
  | none=>rw [ht] at h; cases h
  | some x=>
   obtain⟨o,k⟩:=x
   have hk:=Afp ht
   rw [ht] at h
   simp only at h
   cases hr:L0 (s.drop k) (p+1+k) with
   | wrong e=>rw [hr] at h; cases h
   | ok r=>
    rw [hr] at h
    simp only [Lx.add,Lx.ok.injEq] at h
    subst h
    intro t ht
    rcases List.mem_append.1 ht with ht | ht
    ·cases o with
     | none=>cases ht
     | some u=>
      simp at ht
      exact⟨p,by rw [ht]; rfl,Nat.le_refl _,by rw [List.length_cons]; omega⟩
    ·obtain⟨m,h1,h2,h3⟩:=Aem n (s.drop k) _ r (by rw [List.length_drop]; simp at hn; omega) hr t ht
     rw [List.length_drop] at h3
     exact⟨m,h1,by omega,by rw [List.length_cons]; omega⟩
theorem Agr (l:List Token):out (.ok l)=(l,0,0):=rfl
theorem Ahq (e:Nat):out (.wrong e)=([],(e:Int),70):=rfl
theorem Ud {s:Av}(h:s.length≤65536):F4 s=out (L0 s 0):=by unfold F4; rw [if_pos h]
end Go.Am
namespace Go.Am
open Go
set_option linter.unusedVariables false
set_option linter.unusedSimpArgs false
end Go.Am
namespace Go.Am
open Go
set_option linter.unusedVariables false
set_option linter.unusedSimpArgs false
end Go.Am
namespace Go.Am
open Go
set_option linter.unusedVariables false
set_option linter.unusedSimpArgs false
theorem Yv {s:Av}{l:List Token}(hs:s.length≤65536)(h:L0 s 0=.ok l):P3 s=Agc (s.length:Int) (Wa l):=by
 unfold P3
 rw [Ud hs,h,Agr]
 rfl
theorem Ab5 {s:Av}(h:(F4 s).2.2≠0):P3 s=(Zw,(F4 s).2.1,(F4 s).2.2):=by
 unfold P3
 rw [if_neg h]
end Go.Am
namespace Go.Am
open Go
set_option linter.unusedVariables false
set_option linter.unusedSimpArgs false
structure Fine {α:Type}(p:Rd α):Prop where
 sub:Jq p
 err : ∀ l q e,p l=.error (q,e)→q <:+ l∧(e=80∨e=2∧q≠[])
 loc : ∀ c m a,p (c++m)=.ok (a,m) → ∀ m1 q,m=m1++q→p (c++m1)=.ok (a,m1)
 cut : ∀ c q e,p (c++q)=.error (q,e)→(∃ a,p c=.ok (a,[]))∨p c=.error ([],80)
 nil:(∃ a,p []=.ok (a,[]))∨p []=.error ([],80)
section
variable {α β:Type}
theorem Ade {α:Type}{c m:List α}(h:c++m=m):c=[]:=by
 have:=congrArg List.length h
 rw [List.length_append] at this
 exact List.length_eq_zero_iff.1 (by omega)
theorem Fu (a:α):Fine (Rd.pure a) where
 sub:=E4 a
 err:=fun _ _ _ h=>nomatch h
 loc:=fun c m b h m1 q e=>by
  have h1:c++m=m:=by injection h with h; injection h
  have h2:a=b:=by injection h with h; injection h
  rw [Ade h1,h2]; rfl
 cut:=fun _ _ _ h=>nomatch h
 nil:=.inl ⟨a,rfl⟩
theorem Cd {p:Rd α}{f:α→Rd β}(hp:Fine p)(hf : ∀ a,Fine (f a)):Fine (p.bind f) where
 sub:=Ca hp.sub fun a=>(hf a).sub
 err:=fun l q e h=>by
  unfold Rd.bind at h
  cases h1:p l with
  | error x=>rw [h1] at h; cases h; exact hp.err l q e h1
  | ok y=>
   rw [h1] at h
   obtain⟨h2,h3⟩:=(hf y.1).err y.2 q e h
   exact⟨h2.trans (hp.sub l y.1 y.2 h1),h3⟩
 loc:=fun c m b h m1 q e=>by
  obtain⟨a,k,h1,h2⟩:=Ab1 h
  obtain⟨d,hd⟩:=(hf a).sub k b m h2
  obtain⟨c',hc⟩:=hp.sub (c++m) a k h1
  have hk:c=c'++d:=by
   rw [← hd,← List.append_assoc] at hc
   exact(List.append_cancel_right hc).symm
  subst hk
  rw [← hd,List.append_assoc] at h1
  have h3:=hp.loc c' (d++m) a h1 (d++m1) q (by rw [e,List.append_assoc])
  rw [← hd] at h2
  have h4:=(hf a).loc d m b h2 m1 q e
  unfold Rd.bind
  rw [List.append_assoc,h3]
  exact h4
 cut:=fun c q e h=>by
  unfold Rd.bind at h ⊢
  cases h1:p (c++q) with
  | error x=>
   rw [h1] at h
   cases h
   rcases hp.cut c q e h1 with⟨a,ha⟩ | ha
   ·rw [ha]; exact(hf a).nil
   ·rw [ha]; exact .inr rfl
  | ok y=>
   obtain⟨a,k⟩:=y
   rw [h1] at h
   obtain⟨d,hd⟩:=((hf a).err k q e h).1
   obtain⟨c',hc⟩:=hp.sub (c++q) a k h1
   have hk:c=c'++d:=by
    rw [← hd,← List.append_assoc] at hc
    exact(List.append_cancel_right hc).symm
   subst hk
   rw [← hd,List.append_assoc] at h1
   have h3:=hp.loc c' (d++q) a h1 d q rfl
   rw [h3]
   rw [← hd] at h
   exact(hf a).cut d q e h
 nil:=by
  unfold Rd.bind
  rcases hp.nil with⟨a,ha⟩ | ha
  ·rw [ha]; exact(hf a).nil
  ·rw [ha]; exact .inr rfl
theorem Zf {q:Token→Bool}{f:Token→α}:Fine ((Nw q).bind fun t=>.pure (f t)) where
 sub:=Ca (Yl _) fun _=>E4 _
 err:=fun l r e h=>by
  cases l with
  | nil=>cases h; exact⟨List.suffix_refl _,.inl rfl⟩
  | cons t l=>
   rw [Uh] at h
   split at h
   ·cases h
   ·cases h; exact⟨List.suffix_refl _,.inl rfl⟩
 loc:=fun c m a h m1 r e=>by
  cases c with
  | nil=>
   cases m with
   | nil=>cases h
   | cons t m=>
    rw [List.nil_append,Uh] at h
    split at h
    ·injection h with h; injection h with _ h
     exact absurd (congrArg List.length h) (by simp)
    ·cases h
  | cons t c=>
   rw [List.cons_append,Uh] at h ⊢
   split at h
   ·rename_i hq
    injection h with h; injection h with h1 h2
    rw [if_pos hq,Ade h2,h1]; rfl
   ·cases h
 cut:=fun c r e h=>by
  cases c with
  | nil=>exact .inr rfl
  | cons t c=>
   rw [List.cons_append,Uh] at h
   split at h
   ·cases h
   ·injection h with h; injection h with h _
    have:=congrArg List.length h
    simp at this
    omega
 nil:=.inr rfl
theorem Aco {k:Int}{w:Av}{p1 p2:Rd α}(h1:Fine p1)(h2:Fine p2):Fine ((Re k w).bind fun b=>if b=true then(Mk k w).bind fun _=>p1 else p2):=by
 have eN:((Re k w).bind fun b=>if b=true then(Mk k w).bind fun _=>p1 else p2) []=p2 []:=rfl
 have eY : ∀ t l,Md k w t=true→((Re k w).bind fun b=>if b=true then(Mk k w).bind fun _=>p1 else p2) (t::l)=p1 l:=fun t l ht=>by
  simp only [Rd.bind,Re,ht,if_true]; rw [Ah9,if_pos ht]
 have eF : ∀ t l,¬ Md k w t=true→((Re k w).bind fun b=>if b=true then(Mk k w).bind fun _=>p1 else p2) (t::l)=p2 (t::l):=fun t l ht=>by
  simp only [Rd.bind,Re,ht,if_false,Bool.false_eq_true]
 refine⟨fun l a q h=>?_,fun l q e h=>?_,fun c m a h m1 q e=>?_,fun c q e h=>?_,?_⟩
 ·cases l with
  | nil=>rw [eN] at h; exact h2.sub _ _ _ h
  | cons t l=>
   by_cases ht:Md k w t=true
   ·rw [eY t l ht] at h; exact(h1.sub _ _ _ h).trans (List.suffix_cons _ _)
   ·rw [eF t l ht] at h; exact h2.sub _ _ _ h
 ·cases l with
  | nil=>rw [eN] at h; exact h2.err _ _ _ h
  | cons t l=>
   by_cases ht:Md k w t=true
   ·rw [eY t l ht] at h; exact⟨((h1.err _ _ _ h).1).trans (List.suffix_cons _ _),(h1.err _ _ _ h).2⟩
   ·rw [eF t l ht] at h; exact h2.err _ _ _ h
 ·cases c with
  | nil=>
   rw [List.nil_append] at h ⊢
   cases m with
   | nil=>
    obtain⟨rfl,rfl⟩:=List.append_eq_nil_iff.1 e.symm
    exact h
   | cons t m=>
    by_cases ht:Md k w t=true
    ·rw [eY t m ht] at h
     have:=(h1.sub _ _ _ h).length_le
     simp at this
     omega
    ·rw [eF t m ht] at h
     have h3:=h2.loc [] (t::m) a h m1 q e
     cases m1 with
     | nil=>rw [eN]; exact h3
     | cons u m1=>
      have:t=u:=by injection e
      subst this
      rw [eF t m1 ht]; exact h3
  | cons t c=>
   rw [List.cons_append] at h ⊢
   by_cases ht:Md k w t=true
   ·rw [eY _ _ ht] at h ⊢
    exact h1.loc c m a h m1 q e
   ·rw [eF _ _ ht] at h ⊢
    exact h2.loc (t::c) m a h m1 q e
 ·cases c with
  | nil=>rw [eN]; exact h2.nil
  | cons t c=>
   rw [List.cons_append] at h
   by_cases ht:Md k w t=true
   ·rw [eY _ _ ht] at h ⊢
    exact h1.cut c q e h
   ·rw [eF _ _ ht] at h ⊢
    exact h2.cut (t::c) q e h
 ·rw [eN]; exact h2.nil
end
end Go.Am
namespace Go.Am
open Go
set_option linter.unusedVariables false
set_option linter.unusedSimpArgs false
section
variable {α β:Type}
theorem Ahk {k:Int}{w:Av}{p2:Rd α}(h2:Fine p2):Fine ((Re k w).bind fun b=>if b=true then .fail 2 else p2):=by
 have eN:((Re k w).bind fun b=>if b=true then(.fail 2:Rd α) else p2) []=p2 []:=rfl
 have eY : ∀ t l,Md k w t=true→((Re k w).bind fun b=>if b=true then(.fail 2:Rd α) else p2) (t::l)=.error (t::l,2):=fun t l ht=>by
  simp only [Rd.bind,Re,ht,if_true]; rfl
 have eF : ∀ t l,¬ Md k w t=true→((Re k w).bind fun b=>if b=true then(.fail 2:Rd α) else p2) (t::l)=p2 (t::l):=fun t l ht=>by
  simp only [Rd.bind,Re,ht,if_false,Bool.false_eq_true]
 refine⟨fun l a q h=>?_,fun l q e h=>?_,fun c m a h m1 q e=>?_,fun c q e h=>?_,?_⟩
 ·cases l with
  | nil=>rw [eN] at h; exact h2.sub _ _ _ h
  | cons t l=>
   by_cases ht:Md k w t=true
   ·rw [eY t l ht] at h; cases h
   ·rw [eF t l ht] at h; exact h2.sub _ _ _ h
 ·cases l with
  | nil=>rw [eN] at h; exact h2.err _ _ _ h
  | cons t l=>
   by_cases ht:Md k w t=true
   ·rw [eY t l ht] at h; cases h; exact⟨List.suffix_refl _,.inr ⟨rfl,by simp⟩⟩
   ·rw [eF t l ht] at h; exact h2.err _ _ _ h
 ·cases c with
  | nil=>
   rw [List.nil_append] at h ⊢
   cases m with
   | nil=>
    obtain⟨rfl,rfl⟩:=List.append_eq_nil_iff.1 e.symm
    exact h
   | cons t m=>
    by_cases ht:Md k w t=true
    ·rw [eY t m ht] at h; cases h
    ·rw [eF t m ht] at h
     have h3:=h2.loc [] (t::m) a h m1 q e
     cases m1 with
     | nil=>rw [eN]; exact h3
     | cons u m1=>
      have:t=u:=by injection e
      subst this
      rw [eF t m1 ht]; exact h3
  | cons t c=>
   rw [List.cons_append] at h ⊢
   by_cases ht:Md k w t=true
   ·rw [eY _ _ ht] at h; cases h
   ·rw [eF _ _ ht] at h ⊢
    exact h2.loc (t::c) m a h m1 q e
 ·cases c with
  | nil=>rw [eN]; exact h2.nil
  | cons t c=>
   rw [List.cons_append] at h
   by_cases ht:Md k w t=true
   ·rw [eY _ _ ht] at h
    injection h with h; injection h with h _
    have:=congrArg List.length h
    simp at this
    omega
   ·rw [eF _ _ ht] at h ⊢
    exact h2.cut (t::c) q e h
 ·rw [eN]; exact h2.nil
theorem Mx:Fine Oq:=Zf
theorem Ka (k:Int)(w:Av):Fine (Mk k w):=Zf
theorem Mf (a b c:Int):Fine (Om a b c):=Zf
theorem Z4:Fine Pu:=Cd (Mf _ _ _) fun _=>Cd (Ka _ _) fun _=>Cd (Mf _ _ _) fun _=>Fu _
theorem Oj {p:Rd α}(hp:Fine p) : ∀ (n:Nat) (acc:List α),Fine (Gq p n acc)
 | 0,acc=>by
  rw [Gq]
  exact Cd hp fun a=>Ahk (Fu _)
 | n+1,acc=>by
  rw [Gq]
  exact Cd hp fun a=>Aco (Oj hp n _) (Fu _)
theorem Zv (w:Av):Fine (V6 w):=Aco (Oj Z4 _ _) (Fu _)
theorem Ag8:Fine V5:=Cd (Ka _ _) fun _=>Cd Mx fun _=>Cd (Mf _ _ _) fun _=>Fu _
theorem Aib (s:Av):Fine (Aa6 s):=Cd (Zv _) fun _=>Fu _
theorem Aiu (s:Av):Fine (Aa5 s):=Cd (Ka _ _) fun _=>Cd (Oj Mx _ _) fun _=>Cd (Ka _ _) fun _=>Cd (Mf _ _ _) fun _=>Cd (Ka _ _) fun _=>Cd (Mf _ _ _) fun _=>Fu _
theorem Ajh (s:Av):Fine (Aa9 s):=Cd (Ka _ _) fun _=>Cd (Oj Mx _ _) fun _=>Fu _
theorem Ajm (s:Av):Fine (Aar s):=Cd (Ka _ _) fun _=>Cd Mx fun _=>Cd (Ka _ _) fun _=>Cd (Mf _ _ _) fun _=>Cd (Zv _) fun _=>Fu _
theorem Ajk (s:Av):Fine (Aaq s):=Cd (Ka _ _) fun _=>Cd Mx fun _=>Cd (Ka _ _) fun _=>Cd Mx fun _=>Cd (Ka _ _) fun _=>Cd (Oj Mx _ _) fun _=>Fu _
theorem Aje (s:Av):Fine (Aam s):=Cd (Oj Ag8 _ _) fun _=>Fu _
theorem Ahx (s:Av):Fine (Aal s):=Cd (Ka _ _) fun _=>Cd (Mf _ _ _) fun _=>Cd (Ka _ _) fun _=>Cd (Mf _ _ _) fun _=>Cd (Ka _ _) fun _=>Cd (Mf _ _ _) fun _=>Fu _
theorem Ajl (s:Av):Fine (Aaz s):=Cd (Ka _ _) fun _=>Cd Mx fun _=>Cd Z4 fun _=>Fu _
theorem Ajf (s:Av):Fine (Adl s):=Fu _
theorem Aiv (s:Av):Fine (Aa0 s):=Cd (Mf _ _ _) fun _=>Fu _
theorem Aja (s:Av):Fine (Zb s):=Cd (Mf _ _ _) fun _=>Fu _
theorem Aik {p:Av→Rd α}(hp : ∀ s,Fine (p s)):Fine (F0 p):=Cd Mx fun s=>Cd (hp s) fun _=>Cd (Ka _ _) fun _=>Fu _
end
theorem Ag2 {w:Av}{A:Airspace}{f:Bool}{p:Rd Airspace}(h:Ts w A=some (f,p)):Fine p:=by
 unfold Ts at h
 refine(Fb h).elim (fun h=>?_) (fun h=>(Fb h).elim (fun h=>?_) (fun h=>(Fb h).elim (fun h=>?_) (fun h=>(Fb h).elim (fun h=>?_) (fun h=>(Fb h).elim (fun h=>?_) (fun h=>(Fb h).elim (fun h=>?_) (fun h=>(Fb h).elim (fun h=>?_) (fun h=>(Fb h).elim (fun h=>?_) (fun h=>(Fb h).elim (fun h=>?_) (fun h=>(Fb h).elim (fun h=>?_) (fun h=>(Fb h).elim (fun h=>?_) (fun h=>nomatch h)))))))))))
 all_goals
  cases h
  exact Cd (Aik (by first | exact Aje | exact Ahx | exact Ajh | exact Ajl | exact Ajf | exact Aja | exact Ajk | exact Aiu | exact Ajm | exact Aib | exact Aiv)) fun _=>Fu _
theorem Ach (A:Airspace)(t:Token):(∃ e,(e=80∨e=2) ∧ ∀ r,Pe A (t::r)=.error (t::r,e)) ∨ ∃ p,Fine p ∧ ∀ r,Pe A (t::r)=p r:=by
 by_cases hk:(t.Kind==1)=true
 ·cases h:Ts t.Text A with
  | none=>exact .inl ⟨80,.inl rfl,fun r=>by simp only [Pe,hk,if_true,h]⟩
  | some x=>
   obtain⟨f,p⟩:=x
   cases f
   ·exact .inr ⟨p,Ag2 h,fun r=>by simp only [Pe,hk,if_true,h]; rfl⟩
   ·exact .inl ⟨2,.inr rfl,fun r=>by simp only [Pe,hk,if_true,h]⟩
 ·exact .inl ⟨80,.inl rfl,fun r=>by simp only [Pe,hk]; rfl⟩
theorem Aaw : ∀ (n:Nat) (A:Airspace) (l q:List Token) (e:Int),l.length≤n→P7 n A l=.error (q,e)→q <:+ l∧(e=80∨e=2∧q≠[])
 | n,A,[],q,e,_,h=>by rw [P7.eq_1] at h; cases h
 | 0,A,t::r,q,e,hn,h=>by simp at hn
 | n+1,A,t::r,q,e,hn,h=>by
  rw [P7] at h
  rcases Ach A t with⟨e',he,hd⟩ | ⟨p,hp,hd⟩
  ·rw [hd r] at h
   cases h
   exact⟨List.suffix_refl _,he.imp id fun h=>⟨h,by simp⟩⟩
  ·rw [hd r] at h
   cases h1:p r with
   | error x=>
    rw [h1] at h; cases h
    obtain⟨h2,h3⟩:=hp.err r q e h1
    exact⟨h2.trans (List.suffix_cons _ _),h3⟩
   | ok y=>
    rw [h1] at h
    have h2:=hp.sub r y.1 y.2 h1
    have:=h2.length_le
    simp only [List.length_cons] at hn
    obtain⟨h3,h4⟩:=Aaw n y.1 y.2 q e (by omega) h
    exact⟨(h3.trans h2).trans (List.suffix_cons _ _),h4⟩
theorem Aff : ∀ (n m:Nat) (A:Airspace) (c q:List Token) (e:Int),(c++q).length≤n→c.length≤m→P7 n A (c++q)=.error (q,e)→(∃ B,P7 m A c=.ok B)∨P7 m A c=.error ([],80)
 | n,m,A,[],q,e,_,_,h=>.inl ⟨A,by rw [P7.eq_1]⟩
 | 0,m,A,t::c,q,e,hn,_,h=>by simp at hn
 | n+1,0,A,t::c,q,e,_,hm,h=>by simp at hm
 | n+1,m+1,A,t::c,q,e,hn,hm,h=>by
  rw [List.cons_append,P7] at h
  rw [P7]
  simp only [List.length_cons,List.cons_append] at hn hm
  rcases Ach A t with⟨e',he,hd⟩ | ⟨p,hp,hd⟩
  ·rw [hd] at h
   injection h with h; injection h with h _
   have:=congrArg List.length h
   simp at this
   omega
  ·rw [hd] at h ⊢
   cases h1:p (c++q) with
   | error x=>
    rw [h1] at h; cases h
    rcases hp.cut c q e h1 with⟨B,hB⟩ | hB
    ·rw [hB]; exact .inl ⟨B,by simp only; rw [P7.eq_1]⟩
    ·rw [hB]; exact .inr rfl
   | ok y=>
    obtain⟨B,k⟩:=y
    rw [h1] at h
    simp only at h
    have h2:=hp.sub _ B k h1
    have h3:=h2.length_le
    obtain⟨d,hd'⟩:=(Aaw n B k q e (by omega) h).1
    obtain⟨c',hc⟩:=h2
    have hk:c=c'++d:=by
     rw [← hd',← List.append_assoc] at hc
     exact(List.append_cancel_right hc).symm
    subst hk
    rw [← hd',List.append_assoc] at h1
    have h4:=hp.loc c' (d++q) B h1 d q rfl
    rw [h4]
    rw [← hd'] at h h3
    simp only [List.length_append] at h3 hm hn
    exact Aff n m B d q e (by rw [List.length_append]; omega) (by omega) h
end Go.Am
namespace Go.Am
open Go
set_option linter.unusedVariables false
set_option linter.unusedSimpArgs false
theorem Acp : ∀ (n:Nat) (s:Av) (p:Nat) (pre:List Token) (t:Token) (r:List Token),s.length≤n→L0 s p=.ok (pre++t::r) → ∃ k:Nat,t.At=((p+k:Nat):Int)∧k≤s.length∧L0 (s.take k) p=.ok pre
 | n,[],p,pre,t,r,_,h=>by
  rw [Wc] at h
  injection h with h
  exact absurd (congrArg List.length h) (by simp)
 | 0,_::_,_,_,_,_,hn,_=>by simp at hn
 | n+1,c::s,p,pre,t,r,hn,h=>by
  rw [Qf] at h
  cases ht:tk c s with
  | none=>rw [ht] at h; cases h
  | some x=>
   obtain⟨o,j⟩:=x
   rw [ht] at h
   simp only at h
   have hj:=Afp ht
   simp only [List.length_cons] at hn
   cases hr:L0 (s.drop j) (p+1+j) with
   | wrong e=>rw [hr] at h; cases h
   | ok l'=>
    rw [hr] at h
    have step : ∀ (pre':List Token),l'=pre'++t::r → ∃ k:Nat,t.At=((p+k:Nat):Int)∧k≤(c::s).length∧L0 ((c::s).take k) p=(Lx.ok pre').add o p:=fun pre' e=>by
     subst e
     obtain⟨k,h1,h2,h3⟩:=Acp n (s.drop j) (p+1+j) pre' t r (by rw [List.length_drop]; omega) hr
     rw [List.length_drop] at h2
     refine⟨k+j+1,by rw [h1]; congr 1; omega,by simp; omega,?_⟩
     rw [List.take_succ_cons,Qf,Aki ht (Nat.le_add_left j k)]
     simp only
     rw [List.drop_take,Nat.add_sub_cancel,h3]
    cases o with
    | none=>
     injection h with h
     exact step pre h
    | some u=>
     injection h with h
     cases pre with
     | nil=>
      have h:at' p u::l'=t::r:=h
      injection h with h1 h2
      exact⟨0,by rw [← h1]; rfl,Nat.zero_le _,rfl⟩
     | cons v pre=>
      have h:at' p u::l'=v::(pre++t::r):=h
      injection h with h1 h2
      obtain⟨k,h3,h4,h5⟩:=step pre h2
      exact⟨k,h3,h4,by rw [h5,← h1]; rfl⟩
theorem Ab4 (r1:Airspace×Int×Int) : ∀ (l:List Token) (k:Nat) (b:Bool),It (fun _ a=>fun met=>Ja r1 a met) k l b=.ok (b||l.any fun a=>a.At==r1.2.1)
 | [],k,b=>by rw [Af2]; simp
 | a::l,k,b=>by
  rw [Aek]
  show(R.ok (b||(a.At==r1.2.1))).bind _=_
  rw [R.ok_bind,Ab4 r1 l,List.any_cons,Bool.or_assoc]
theorem law_SyntaxPlaces:Mg:=by
 intro a0 _ _
 unfold Mt
 rw [Ah6,R.ok_bind,if_pos rfl]
 split
 ·rfl
 rename_i hlen
 rw [Zc,R.ok_bind,Agu,R.ok_bind]
 have hs:a0.length≤65536:=by omega
 by_cases he:(F4 a0).2.2=0
 ·cases hl:L0 a0 0 with
  | wrong e=>rw [Ud hs,hl,Ahq] at he; exact absurd he (by simp)
  | ok l=>
   have e1:F4 a0=(l,0,0):=by rw [Ud hs,hl,Agr]
   rw [e1,Yv hs hl]
   cases hp:Wa l with
   | ok A=>rfl
   | error x=>
    obtain⟨q,e⟩:=x
    obtain⟨⟨pre,hq⟩,h2⟩:=Aaw l.length Zw l q e (Nat.le_refl _) hp
    have hplace : ∃ k:Nat,X7 (a0.length:Int) q=(k:Int)∧k≤a0.length∧(q=[]→k=a0.length)∧(q≠[]→k<a0.length∧l.any (fun a=>a.At==(k:Int))=true)∧L0 (a0.take k) 0=.ok pre:=by
     cases q with
     | nil=>
      rw [List.append_nil] at hq
      subst hq
      exact⟨a0.length,rfl,Nat.le_refl _,fun _=>rfl,fun h=>absurd rfl h,by rw [List.take_length]; exact hl⟩
     | cons t r=>
      obtain⟨k,h3,h4,h5⟩:=Acp _ a0 0 pre t r (Nat.le_refl _) (by rw [hq]; exact hl)
      rw [Nat.zero_add] at h3
      obtain⟨m,h6,_,h7⟩:=Aem _ a0 0 l (Nat.le_refl _) hl t (by rw [← hq]; simp)
      have hkm:m=k:=by rw [h3] at h6; omega
      refine⟨k,h3,h4,fun h=>by simp at h,fun _=>⟨by omega,?_⟩,h5⟩
      rw [List.any_eq_true]
      exact⟨t,by rw [← hq]; simp,by rw [h3]; simp⟩
    obtain⟨k,k1,k2,k3,k4,k5⟩:=hplace
    simp only [Agc,k1]
    have hne:e≠0:=by rcases h2 with h | ⟨h,_⟩ <;> omega
    rw [if_neg (by simp [hne])]
    have hc:((((decide ((k:Int)<0))||(decide ((k:Int) > (a0.length:Int))))||((e != 80)&&(e != 2)))||(((k:Int)==(a0.length:Int))&&(e != 80)))=false:=by
     rcases h2 with h | ⟨h,hn⟩
     ·subst h; simp; omega
     ·subst h
      have:=(k4 hn).1
      simp; omega
    rw [hc,if_neg (by decide),Ab4,R.ok_bind,if_pos ⟨by omega,by omega⟩,Int.toNat_natCast,Zc,R.ok_bind]
    have hmet:(((k:Int)==(a0.length:Int))||l.any fun a=>a.At==(k:Int))=true:=by
     cases q with
     | nil=>rw [k3 rfl]; simp
     | cons t r=>rw [(k4 (by simp)).2,Bool.or_true]
    have hlk:(a0.take k).length=k:=by rw [List.length_take]; omega
    rw [Yv (by rw [hlk]; omega) k5]
    simp only
    rw [hmet,Bool.true_and]
    rcases Aff l.length pre.length Zw pre q e (by rw [hq]; exact Nat.le_refl _) (Nat.le_refl _) (by rw [hq]; exact hp) with⟨B,hB⟩ | hB
    ·rw [show Wa pre=_ from hB]; rfl
    ·rw [show Wa pre=_ from hB]
     simp only [Agc,X7,hlk,beq_self_eq_true,Bool.and_self,Bool.or_true]
 ·rw [if_pos (by simp [he]),Ab5 he]
  simp only [beq_self_eq_true,Bool.or_true]
end Go.Am
namespace Go.Proofs
open Go.Shelf
def Tryz.lays156_ren:Go.Shelf.Ren:=⟨fun | 156=>61 | 165=>110 | 166=>111 | 169=>112 | 240=>121 | 241=>122 | 276=>134 | 277=>135 | n=>n,fun | 31=>55 | 9=>9 | 3=>3 | 4=>4 | 0=>0 | 20=>20 | 72=>176 | 76=>170 | 70=>173 | 37=>174 | 75=>169 | 127=>184 | 164=>198 | 5=>5 | 80=>178 | n=>n,fun | n=>n⟩
theorem Tryz.lays156:Go.Proofs.Lays.n156 Tryz.prog Tryz.lays156_ren:={
 mixed:=by kernel_rfl
 f156:=Tryz.func61.trans (congrArg some (by kernel_rfl))
 f165:=Tryz.func110.trans (congrArg some (by kernel_rfl))
 f166:=Tryz.func111.trans (congrArg some (by kernel_rfl))
 f169:=Tryz.func112.trans (congrArg some (by kernel_rfl))
 f240:=Tryz.func121.trans (congrArg some (by kernel_rfl))
 f241:=Tryz.func122.trans (congrArg some (by kernel_rfl))
 f276:=Tryz.func134.trans (congrArg some (by kernel_rfl))
 f277:=Tryz.func135.trans (congrArg some (by kernel_rfl))
 t0:=Tryz.underlying0
 a0:=Tryz.isAgg0
 z0:=Tryz.sizeOf0
 v0:=Tryz.zeroValue0
 t3:=Tryz.underlying3
 a3:=Tryz.isAgg3
 z3:=Tryz.sizeOf3
 v3:=Tryz.zeroValue3
 t4:=Tryz.underlying4
 a4:=Tryz.isAgg4
 z4:=Tryz.sizeOf4
 v4:=Tryz.zeroValue4
 t9:=Tryz.underlying9
 a9:=Tryz.isAgg9
 z9:=Tryz.sizeOf9
 v9:=Tryz.zeroValue9
 t20:=Tryz.underlying20
 a20:=Tryz.isAgg20
 z20:=Tryz.sizeOf20
 v20:=Tryz.zeroValue20
 t31:=Tryz.underlying55
 a31:=Tryz.isAgg55
 z31:=Tryz.sizeOf55
 v31:=Tryz.zeroValue55
 t37:=Tryz.underlying174
 a37:=Tryz.isAgg174
 z37:=Tryz.sizeOf174
 v37:=Tryz.zeroValue174
 t70:=Tryz.underlying173
 a70:=Tryz.isAgg173
 z70:=Tryz.sizeOf173
 v70:=Tryz.zeroValue173
 t72:=Tryz.underlying176
 a72:=Tryz.isAgg176
 z72:=Tryz.sizeOf176
 v72:=Tryz.zeroValue176
 t75:=Tryz.underlying169
 a75:=Tryz.isAgg169
 z75:=Tryz.sizeOf169
 v75:=Tryz.zeroValue169
 t76:=Tryz.underlying170
 a76:=Tryz.isAgg170
 z76:=Tryz.sizeOf170
 v76:=Tryz.zeroValue170
 t127:=Tryz.underlying184
 a127:=Tryz.isAgg184
 z127:=Tryz.sizeOf184
 v127:=Tryz.zeroValue184
 t164:=Tryz.underlying198
 a164:=Tryz.isAgg198
 z164:=Tryz.sizeOf198
 v164:=Tryz.zeroValue198 }
theorem Tryz.Builder_Extra_156:Builder.Extra Tryz.prog Tryz.lays156_ren:={
 sizeBuilder:=by kernel_rfl
 liesBuilder:=by kernel_rfl
 t5:=Tryz.underlying5
 a5:=Tryz.isAgg5
 z5:=Tryz.sizeOf5
 v5:=Tryz.zeroValue5
 infoByte:=by kernel_rfl
 cellsByte:=by kernel_rfl
 sizeByte:=by kernel_rfl
 neB5:=by decide }
open Go.RowKit in
theorem Tryz.strings_Join_none (a : Option Addr) (c : Nat) (sep : ByteArray) (w : World) :
  Calls Tryz.prog 61 #[.slice a 0 c, .string sep] w fun e w' => e = .returned (.string ⟨#[]⟩) ∧ w' = w := Any.strings_Join_none Tryz.lays156 Tryz.Builder_Extra_156 a c sep w
open Go.RowKit in
theorem Tryz.strings_Join (bk o c : Nat) (xs : List ByteArray) (sep : ByteArray) (w : World) (hcells : ∀ (j : Nat) x, xs[j]? = some x → w.cell? ⟨bk, o + j, none⟩ = some (.string x)) (hbk : bk < w.heap.size) (hN : xs.length ≤ 140737488355328) (hcap : xs.length ≤ c) (hlen : (Lib.join (xs.map (·.data.toList)) sep.data.toList).length ≤ 140737488355328) :
  Calls Tryz.prog 61 #[.slice (some ⟨bk, o, none⟩) xs.length c, .string sep] w fun e w' => e = .returned (.string ⟨(Lib.join (xs.map (·.data.toList)) sep.data.toList).toArray⟩) ∧ Below w.heap.size w w' := Any.strings_Join Tryz.lays156 Tryz.Builder_Extra_156 bk o c xs sep w hcells hbk hN hcap hlen
def Tryz.lays137_ren:Go.Shelf.Ren:=⟨fun | 137=>108 | 217=>119 | 266=>129 | n=>n,fun | 9=>9 | 5=>5 | 3=>3 | n=>n,fun | n=>n⟩
theorem Tryz.lays137:Go.Proofs.Lays.n137 Tryz.prog Tryz.lays137_ren:={
 mixed:=by kernel_rfl
 f137:=Tryz.func108.trans (congrArg some (by kernel_rfl))
 f217:=Tryz.func119.trans (congrArg some (by kernel_rfl))
 f266:=Tryz.func129.trans (congrArg some (by kernel_rfl))
 t3:=Tryz.underlying3
 a3:=Tryz.isAgg3
 z3:=Tryz.sizeOf3
 v3:=Tryz.zeroValue3
 t5:=Tryz.underlying5
 a5:=Tryz.isAgg5
 z5:=Tryz.sizeOf5
 v5:=Tryz.zeroValue5
 t9:=Tryz.underlying9
 a9:=Tryz.isAgg9
 z9:=Tryz.sizeOf9
 v9:=Tryz.zeroValue9 }
open Go.RowKit in
theorem Tryz.strings_IndexByte (s : ByteArray) (c : Int) (w : World) :
  Calls Tryz.prog 108 #[.string s, .int .u8 c] w fun e w' => e = .returned (.int .i64 (Lib.indexByte s.data.toList c.toNat.toUInt8)) ∧ w' = w := Any.strings_IndexByte Tryz.lays137 s c w
def Tryz.laysM171_ren:Go.Shelf.Ren:=⟨fun | 171=>60 | 243=>109 | 246=>120 | 283=>130 | 284=>131 | 285=>132 | 286=>133 | 129=>140 | 317=>139 | 318=>141 | 319=>142 | 320=>143 | 337=>146 | 338=>147 | n=>n,fun | 3=>3 | 9=>9 | 2=>2 | 4=>4 | 171=>192 | 0=>0 | 53=>193 | 37=>174 | 5=>5 | 173=>196 | 212=>210 | 51=>211 | 20=>20 | 213=>212 | 46=>203 | 232=>220 | 233=>221 | n=>n,fun | 17=>4 | 18=>5 | 19=>6 | n=>n⟩
theorem Tryz.laysM171:Go.Proofs.LaysM.n171 Tryz.prog Tryz.laysM171_ren:={
 mixed:=by kernel_rfl
 f129:=Tryz.func140.trans (congrArg some (by kernel_rfl))
 f171:=Tryz.func60.trans (congrArg some (by kernel_rfl))
 f243:=Tryz.func109.trans (congrArg some (by kernel_rfl))
 f246:=Tryz.func120.trans (congrArg some (by kernel_rfl))
 f283:=Tryz.func130.trans (congrArg some (by kernel_rfl))
 f284:=Tryz.func131.trans (congrArg some (by kernel_rfl))
 f285:=Tryz.func132.trans (congrArg some (by kernel_rfl))
 f286:=Tryz.func133.trans (congrArg some (by kernel_rfl))
 f317:=Tryz.func139.trans (congrArg some (by kernel_rfl))
 f318:=Tryz.func141.trans (congrArg some (by kernel_rfl))
 f319:=Tryz.func142.trans (congrArg some (by kernel_rfl))
 f320:=Tryz.func143.trans (congrArg some (by kernel_rfl))
 f337:=Tryz.func146.trans (congrArg some (by kernel_rfl))
 f338:=Tryz.func147.trans (congrArg some (by kernel_rfl))
 t0:=Tryz.underlying0
 a0:=Tryz.isAgg0
 z0:=Tryz.sizeOf0
 v0:=Tryz.zeroValue0
 t2:=Tryz.underlying2
 a2:=Tryz.isAgg2
 z2:=Tryz.sizeOf2
 v2:=Tryz.zeroValue2
 t3:=Tryz.underlying3
 a3:=Tryz.isAgg3
 z3:=Tryz.sizeOf3
 v3:=Tryz.zeroValue3
 t4:=Tryz.underlying4
 a4:=Tryz.isAgg4
 z4:=Tryz.sizeOf4
 v4:=Tryz.zeroValue4
 t5:=Tryz.underlying5
 a5:=Tryz.isAgg5
 z5:=Tryz.sizeOf5
 v5:=Tryz.zeroValue5
 t9:=Tryz.underlying9
 a9:=Tryz.isAgg9
 z9:=Tryz.sizeOf9
 v9:=Tryz.zeroValue9
 t20:=Tryz.underlying20
 a20:=Tryz.isAgg20
 z20:=Tryz.sizeOf20
 v20:=Tryz.zeroValue20
 t37:=Tryz.underlying174
 a37:=Tryz.isAgg174
 z37:=Tryz.sizeOf174
 v37:=Tryz.zeroValue174
 t46:=Tryz.underlying203
 a46:=Tryz.isAgg203
 z46:=Tryz.sizeOf203
 v46:=Tryz.zeroValue203
 t51:=Tryz.underlying211
 a51:=Tryz.isAgg211
 z51:=Tryz.sizeOf211
 v51:=Tryz.zeroValue211
 t53:=Tryz.underlying193
 a53:=Tryz.isAgg193
 z53:=Tryz.sizeOf193
 v53:=Tryz.zeroValue193
 t171:=Tryz.underlying192
 a171:=Tryz.isAgg192
 z171:=Tryz.sizeOf192
 v171:=Tryz.zeroValue192
 t173:=Tryz.underlying196
 a173:=Tryz.isAgg196
 z173:=Tryz.sizeOf196
 v173:=Tryz.zeroValue196
 t212:=Tryz.underlying210
 a212:=Tryz.isAgg210
 z212:=Tryz.sizeOf210
 v212:=Tryz.zeroValue210
 t213:=Tryz.underlying212
 a213:=Tryz.isAgg212
 z213:=Tryz.sizeOf212
 t232:=Tryz.underlying220
 a232:=Tryz.isAgg220
 z232:=Tryz.sizeOf220
 v232:=Tryz.zeroValue220
 t233:=Tryz.underlying221
 a233:=Tryz.isAgg221
 z233:=Tryz.sizeOf221
 v233:=Tryz.zeroValue221
 g17:=by kernel_rfl
 g18:=by kernel_rfl
 g19:=by kernel_rfl
 i0:=by kernel_rfl
 i2:=by kernel_rfl
 i3:=by kernel_rfl
 i4:=by kernel_rfl
 i5:=by kernel_rfl
 i9:=by kernel_rfl
 i20:=by kernel_rfl
 i37:=by kernel_rfl
 i46:=by kernel_rfl
 i51:=by kernel_rfl
 i53:=by kernel_rfl
 i171:=by kernel_rfl
 i173:=by kernel_rfl
 i212:=by kernel_rfl
 i232:=by kernel_rfl
 i233:=by kernel_rfl
 m17:=by kernel_rfl
 m18:=by kernel_rfl
 m19:=by kernel_rfl }
open Go.RowKit Go.Sort Go.Lib in
theorem Tryz.strconv_Itoa (n : Int) (h0 : -9223372036854775808 ≤ n) (h1 : n ≤ 9223372036854775807) (w : World) (htab : Lib.TabIs Tryz.prog w "internal/strconv.uint64pow10" .u64 Lib.pow10Tab) :
  Calls Tryz.prog 60 #[.int .i64 n] w fun e w' => e = .returned (.string ⟨(Lib.itoa n).toArray⟩) ∧ ∃ k os, w' = grow (w.drewN k) os := Any.strconv_Itoa Tryz.laysM171 n h0 h1 w htab
def Tryz.laysC172_ren:Go.Shelf.Ren:=⟨fun | 172=>106 | 244=>116 | 245=>117 | 247=>124 | 279=>125 | 280=>126 | 281=>127 | 282=>128 | 287=>136 | 316=>137 | 171=>60 | 205=>138 | 321=>144 | 322=>145 | 243=>109 | 246=>120 | 283=>130 | 284=>131 | 285=>132 | 286=>133 | 129=>140 | 317=>139 | 318=>141 | 319=>142 | 320=>143 | 337=>146 | 338=>147 | n=>n,fun | 9=>9 | 3=>3 | 75=>169 | 76=>170 | 4=>4 | 5=>5 | 167=>186 | 37=>174 | 0=>0 | 85=>187 | 2=>2 | 168=>189 | 53=>193 | 175=>201 | 46=>203 | 210=>206 | 127=>184 | 145=>218 | 143=>216 | 21=>21 | 171=>192 | 173=>196 | 212=>210 | 51=>211 | 20=>20 | 213=>212 | 232=>220 | 233=>221 | 80=>178 | n=>n,fun | 15=>1 | 16=>2 | 17=>4 | 18=>5 | 19=>6 | n=>n⟩
theorem Tryz.laysC172:Go.Proofs.LaysC.n172 Tryz.prog Tryz.laysC172_ren:={
 mixed:=by kernel_rfl
 f129:=Tryz.func140.trans (congrArg some (by kernel_rfl))
 f171:=Tryz.func60.trans (congrArg some (by kernel_rfl))
 f172:=Tryz.func106.trans (congrArg some (by kernel_rfl))
 f205:=Tryz.func138.trans (congrArg some (by kernel_rfl))
 f243:=Tryz.func109.trans (congrArg some (by kernel_rfl))
 f244:=Tryz.func116.trans (congrArg some (by kernel_rfl))
 f245:=Tryz.func117.trans (congrArg some (by kernel_rfl))
 f246:=Tryz.func120.trans (congrArg some (by kernel_rfl))
 f247:=Tryz.func124.trans (congrArg some (by kernel_rfl))
 f279:=Tryz.func125.trans (congrArg some (by kernel_rfl))
 f280:=Tryz.func126.trans (congrArg some (by kernel_rfl))
 f281:=Tryz.func127.trans (congrArg some (by kernel_rfl))
 f282:=Tryz.func128.trans (congrArg some (by kernel_rfl))
 f283:=Tryz.func130.trans (congrArg some (by kernel_rfl))
 f284:=Tryz.func131.trans (congrArg some (by kernel_rfl))
 f285:=Tryz.func132.trans (congrArg some (by kernel_rfl))
 f286:=Tryz.func133.trans (congrArg some (by kernel_rfl))
 f287:=Tryz.func136.trans (congrArg some (by kernel_rfl))
 f316:=Tryz.func137.trans (congrArg some (by kernel_rfl))
 f317:=Tryz.func139.trans (congrArg some (by kernel_rfl))
 f318:=Tryz.func141.trans (congrArg some (by kernel_rfl))
 f319:=Tryz.func142.trans (congrArg some (by kernel_rfl))
 f320:=Tryz.func143.trans (congrArg some (by kernel_rfl))
 f321:=Tryz.func144.trans (congrArg some (by kernel_rfl))
 f322:=Tryz.func145.trans (congrArg some (by kernel_rfl))
 f337:=Tryz.func146.trans (congrArg some (by kernel_rfl))
 f338:=Tryz.func147.trans (congrArg some (by kernel_rfl))
 t0:=Tryz.underlying0
 a0:=Tryz.isAgg0
 z0:=Tryz.sizeOf0
 v0:=Tryz.zeroValue0
 t2:=Tryz.underlying2
 a2:=Tryz.isAgg2
 z2:=Tryz.sizeOf2
 v2:=Tryz.zeroValue2
 t3:=Tryz.underlying3
 a3:=Tryz.isAgg3
 z3:=Tryz.sizeOf3
 v3:=Tryz.zeroValue3
 t4:=Tryz.underlying4
 a4:=Tryz.isAgg4
 z4:=Tryz.sizeOf4
 v4:=Tryz.zeroValue4
 t5:=Tryz.underlying5
 a5:=Tryz.isAgg5
 z5:=Tryz.sizeOf5
 v5:=Tryz.zeroValue5
 t9:=Tryz.underlying9
 a9:=Tryz.isAgg9
 z9:=Tryz.sizeOf9
 v9:=Tryz.zeroValue9
 t20:=Tryz.underlying20
 a20:=Tryz.isAgg20
 z20:=Tryz.sizeOf20
 v20:=Tryz.zeroValue20
 t21:=Tryz.underlying21
 a21:=Tryz.isAgg21
 z21:=Tryz.sizeOf21
 v21:=Tryz.zeroValue21
 t37:=Tryz.underlying174
 a37:=Tryz.isAgg174
 z37:=Tryz.sizeOf174
 v37:=Tryz.zeroValue174
 t46:=Tryz.underlying203
 a46:=Tryz.isAgg203
 z46:=Tryz.sizeOf203
 v46:=Tryz.zeroValue203
 t51:=Tryz.underlying211
 a51:=Tryz.isAgg211
 z51:=Tryz.sizeOf211
 v51:=Tryz.zeroValue211
 t53:=Tryz.underlying193
 a53:=Tryz.isAgg193
 z53:=Tryz.sizeOf193
 v53:=Tryz.zeroValue193
 t75:=Tryz.underlying169
 a75:=Tryz.isAgg169
 z75:=Tryz.sizeOf169
 v75:=Tryz.zeroValue169
 t76:=Tryz.underlying170
 a76:=Tryz.isAgg170
 z76:=Tryz.sizeOf170
 v76:=Tryz.zeroValue170
 t85:=Tryz.underlying187
 a85:=Tryz.isAgg187
 z85:=Tryz.sizeOf187
 v85:=Tryz.zeroValue187
 t127:=Tryz.underlying184
 a127:=Tryz.isAgg184
 z127:=Tryz.sizeOf184
 v127:=Tryz.zeroValue184
 t143:=Tryz.underlying216
 a143:=Tryz.isAgg216
 z143:=Tryz.sizeOf216
 v143:=Tryz.zeroValue216
 t145:=Tryz.underlying218
 a145:=Tryz.isAgg218
 z145:=Tryz.sizeOf218
 v145:=Tryz.zeroValue218
 t167:=Tryz.underlying186
 a167:=Tryz.isAgg186
 z167:=Tryz.sizeOf186
 v167:=Tryz.zeroValue186
 t168:=Tryz.underlying189
 a168:=Tryz.isAgg189
 z168:=Tryz.sizeOf189
 v168:=Tryz.zeroValue189
 t171:=Tryz.underlying192
 a171:=Tryz.isAgg192
 z171:=Tryz.sizeOf192
 v171:=Tryz.zeroValue192
 t173:=Tryz.underlying196
 a173:=Tryz.isAgg196
 z173:=Tryz.sizeOf196
 v173:=Tryz.zeroValue196
 t175:=Tryz.underlying201
 a175:=Tryz.isAgg201
 z175:=Tryz.sizeOf201
 v175:=Tryz.zeroValue201
 t210:=Tryz.underlying206
 a210:=Tryz.isAgg206
 z210:=Tryz.sizeOf206
 v210:=Tryz.zeroValue206
 t212:=Tryz.underlying210
 a212:=Tryz.isAgg210
 z212:=Tryz.sizeOf210
 v212:=Tryz.zeroValue210
 t213:=Tryz.underlying212
 a213:=Tryz.isAgg212
 z213:=Tryz.sizeOf212
 t232:=Tryz.underlying220
 a232:=Tryz.isAgg220
 z232:=Tryz.sizeOf220
 v232:=Tryz.zeroValue220
 t233:=Tryz.underlying221
 a233:=Tryz.isAgg221
 z233:=Tryz.sizeOf221
 v233:=Tryz.zeroValue221
 g15:=by kernel_rfl
 g16:=by kernel_rfl
 g17:=by kernel_rfl
 g18:=by kernel_rfl
 g19:=by kernel_rfl
 t80:=Tryz.underlying178
 a80:=Tryz.isAgg178
 z80:=Tryz.sizeOf178
 v80:=Tryz.zeroValue178
 i0:=by kernel_rfl
 i2:=by kernel_rfl
 i3:=by kernel_rfl
 i4:=by kernel_rfl
 i5:=by kernel_rfl
 i9:=by kernel_rfl
 i20:=by kernel_rfl
 i21:=by kernel_rfl
 i37:=by kernel_rfl
 i46:=by kernel_rfl
 i51:=by kernel_rfl
 i53:=by kernel_rfl
 i75:=by kernel_rfl
 i76:=by kernel_rfl
 i80:=by kernel_rfl
 i85:=by kernel_rfl
 i127:=by kernel_rfl
 i143:=by kernel_rfl
 i145:=by kernel_rfl
 i167:=by kernel_rfl
 i168:=by kernel_rfl
 i171:=by kernel_rfl
 i173:=by kernel_rfl
 i175:=by kernel_rfl
 i210:=by kernel_rfl
 i212:=by kernel_rfl
 i232:=by kernel_rfl
 i233:=by kernel_rfl
 m15:=by kernel_rfl
 m16:=by kernel_rfl
 m17:=by kernel_rfl
 m18:=by kernel_rfl
 m19:=by kernel_rfl
 c0:=by kernel_rfl
 c2:=by kernel_rfl
 c3:=by kernel_rfl
 c4:=by kernel_rfl
 c5:=by kernel_rfl
 c9:=by kernel_rfl
 c20:=by kernel_rfl
 c21:=by kernel_rfl
 c37:=by kernel_rfl
 c46:=by kernel_rfl
 c51:=by kernel_rfl
 c53:=by kernel_rfl
 c75:=by kernel_rfl
 c76:=by kernel_rfl
 c80:=by kernel_rfl
 c85:=by kernel_rfl
 c127:=by kernel_rfl
 c143:=by kernel_rfl
 c145:=by kernel_rfl
 c167:=by kernel_rfl
 c168:=by kernel_rfl
 c171:=by kernel_rfl
 c173:=by kernel_rfl
 c175:=by kernel_rfl
 c210:=by kernel_rfl
 c212:=by kernel_rfl
 c213:=by kernel_rfl
 c232:=by kernel_rfl
 c233:=by kernel_rfl }
open Go.RowKit in
theorem Tryz.strconv_Atoi_ok (s : ByteArray) (hmax : s.size ≤ 9223372036854775806) (v : Int) (h : Lib.atoiAll s.data.toList = .ok v) (w : World) :
  Calls Tryz.prog 106 #[.string s] w fun e w' => e = .returned (.tuple #[.int .i64 v, .nilIface]) ∧ (w' = w ∨ ∃ t, w' = Lib.bytesWorld w 5 t) := Any.strconv_Atoi_ok Tryz.laysC172 s hmax v h w
open Go.RowKit in
theorem Tryz.strconv_Atoi_syntax_var (s : ByteArray) (hlim : s.size ≤ 281474976710656) (h : Lib.atoiAll s.data.toList = Lib.NumEnd.syntax) (tp : TypeId) (p : Value) (w : World) (hvar : w.var? Tryz.prog "strconv.ErrSyntax" = some #[.iface tp p]) :
  Calls Tryz.prog 106 #[.string s] w fun e w' => ∃ N, e = .returned (.tuple #[.int .i64 0, .iface 189 (.pointer (some ⟨N, 0, none⟩))]) ∧ w.heap.size ≤ N ∧ w'.heap[N]? = some (.cells #[.string ⟨#[65, 116, 111, 105]⟩, .string s, .iface tp p] 206 (0, 0)) ∧ Below w.heap.size w w' := Any.strconv_Atoi_syntax_var Tryz.laysC172 s hlim h tp p w hvar
open Go.RowKit in
theorem Tryz.strconv_Atoi_range_var (s : ByteArray) (hlim : s.size ≤ 281474976710656) (h : Lib.atoiAll s.data.toList = .range) (tp : TypeId) (p : Value) (w : World) (hvar : w.var? Tryz.prog "strconv.ErrRange" = some #[.iface tp p]) :
  Calls Tryz.prog 106 #[.string s] w fun e w' => ∃ N, e = .returned (.tuple #[.int .i64 (Lib.atoiSat s.data.toList), .iface 189 (.pointer (some ⟨N, 0, none⟩))]) ∧ w.heap.size ≤ N ∧ w'.heap[N]? = some (.cells #[.string ⟨#[65, 116, 111, 105]⟩, .string s, .iface tp p] 206 (0, 0)) ∧ Below w.heap.size w w' := Any.strconv_Atoi_range_var Tryz.laysC172 s hlim h tp p w hvar
end Go.Proofs
namespace Go.Am
open Go Go.Proofs
set_option linter.unusedVariables false
set_option linter.unusedSimpArgs false
theorem Acf {w w':World}{s:String}(hs:(Tryz.prog.globalNamed s).all (fun g=>Nat.blt g 7)=true)(e : ∀ b,b<7→w'.heap[b]? = w.heap[b]?):w'.var? Tryz.prog s=w.var? Tryz.prog s:=by
 unfold World.var?
 cases hq:Tryz.prog.globalNamed s with
 | none=>rfl
 | some g=>
  rw [hq] at hs
  simp only [Option.bind_some]
  rw [e g (by simpa using hs)]
def GWp (w : World) : Prop := ((∃ tp p, w.var? Tryz.prog "strconv.ErrRange" = some #[.iface tp p])) ∧ ((∃ tp p, w.var? Tryz.prog "strconv.ErrSyntax" = some #[.iface tp p])) ∧ (Lib.TabIs Tryz.prog w "internal/strconv.uint64pow10" .u64 Lib.pow10Tab)
theorem Aku {w w':World}(e : ∀ b,b<7→w'.heap[b]? = w.heap[b]?)(k:GWp w):GWp w':=⟨(by obtain⟨tp,p,h⟩:=k.1; exact⟨tp,p,by rw [Acf (by kernel_rfl) e]; exact h⟩),(by obtain⟨tp,p,h⟩:=k.2.1; exact⟨tp,p,by rw [Acf (by kernel_rfl) e]; exact h⟩),(by rw [Lib.TabIs,Acf (by kernel_rfl) e]; exact k.2.2)⟩
def Nk:List (Av×Av×FuncId):=[([97,105,114,112,111,114,116],[111,118,101,114,102,108,105,103,104,116,47,115,121,110,116,97,120,46,100,101,102,105,110,105,116,105,111,110,115,36,54],189),([99,108,97,115,115],[111,118,101,114,102,108,105,103,104,116,47,115,121,110,116,97,120,46,100,101,102,105,110,105,116,105,111,110,115,36,55],194),([99,111,110,102,105,103],[111,118,101,114,102,108,105,103,104,116,47,115,121,110,116,97,120,46,100,101,102,105,110,105,116,105,111,110,115,36,51],180),([99,117,114,102,101,119],[111,118,101,114,102,108,105,103,104,116,47,115,121,110,116,97,120,46,100,101,102,105,110,105,116,105,111,110,115,36,56],197),([101,120,101,109,112,116],[111,118,101,114,102,108,105,103,104,116,47,115,121,110,116,97,120,46,100,101,102,105,110,105,116,105,111,110,115,36,57],201),([108,111,110,103,101,115,116],[111,118,101,114,102,108,105,103,104,116,47,115,121,110,116,97,120,46,100,101,102,105,110,105,116,105,111,110,115,36,49,49],205),([114,111,117,116,101],[111,118,101,114,102,108,105,103,104,116,47,115,121,110,116,97,120,46,100,101,102,105,110,105,116,105,111,110,115,36,53],186),([115,101,99,116,111,114],[111,118,101,114,102,108,105,103,104,116,47,115,121,110,116,97,120,46,100,101,102,105,110,105,116,105,111,110,115,36,50],172),([115,101,103,109,101,110,116],[111,118,101,114,102,108,105,103,104,116,47,115,121,110,116,97,120,46,100,101,102,105,110,105,116,105,111,110,115,36,52],183),([118,111,108,117,109,101],[111,118,101,114,102,108,105,103,104,116,47,115,121,110,116,97,120,46,100,101,102,105,110,105,116,105,111,110,115,36,49],168),([119,101,105,103,104,116],[111,118,101,114,102,108,105,103,104,116,47,115,121,110,116,97,120,46,100,101,102,105,110,105,116,105,111,110,115,36,49,48],203)]
instance gwI:GW Tryz.prog where
 n:=7
 G:=fun m w=>GWp w∧FMapAt w m 0 (Jb Nk)
 keep:=fun hn e k=>⟨Aku (fun b hb=>e b (Nat.lt_of_lt_of_le hb hn)) k.1,k.2.keep (Nat.lt_of_lt_of_le (by decide) hn) e⟩
 row:=fun b=>if b=0 then some [.mapc (Jb Nk)] else none
 rowOk:=by
  intro m w b r hn hm k hr
  by_cases h0:b=0
  ·subst h0
   simp at hr
   subst hr
   refine⟨by decide,fun mu M hM j hj=>?_⟩
   obtain rfl:j=0:=by simpa using hj
   exact k.2.rv hm hM
  simp [h0] at hr
theorem Ad8 {m : Nat} {w : World} (k : GW.G Tryz.prog m w) : (∃ tp p, w.var? Tryz.prog "strconv.ErrRange" = some #[.iface tp p]) := k.1.1
theorem Ada {m : Nat} {w : World} (k : GW.G Tryz.prog m w) : (∃ tp p, w.var? Tryz.prog "strconv.ErrSyntax" = some #[.iface tp p]) := k.1.2.1
theorem Aig {m : Nat} {w : World} (k : GW.G Tryz.prog m w) : Lib.TabIs Tryz.prog w "internal/strconv.uint64pow10" .u64 Lib.pow10Tab := k.1.2.2
theorem Fa:Tryz.prog.follows .mixedOrders=true:=by kernel_rfl
theorem Dq:ti Tryz.prog 3=some ⟨.int .i64,1,8,[.int .i64 0]⟩:=by kernel_rfl
theorem Og:ti Tryz.prog 4=some ⟨.bool,1,1,[.bool false]⟩:=by kernel_rfl
theorem Cg:ti Tryz.prog 9=some ⟨.str,1,16,[.str []]⟩:=by kernel_rfl
theorem Afv:ti Tryz.prog 20=some ⟨.ifc,1,16,[.nili]⟩:=by kernel_rfl
theorem Ib:ti Tryz.prog 23=some ⟨.sl 54,1,24,[.emp]⟩:=by kernel_rfl
theorem Lb:ti Tryz.prog 24=some ⟨.sl 58,1,24,[.emp]⟩:=by kernel_rfl
theorem Mm:ti Tryz.prog 25=some ⟨.sl 77,1,24,[.emp]⟩:=by kernel_rfl
theorem Mn:ti Tryz.prog 26=some ⟨.sl 79,1,24,[.emp]⟩:=by kernel_rfl
theorem Ml:ti Tryz.prog 27=some ⟨.sl 81,1,24,[.emp]⟩:=by kernel_rfl
theorem Me:ti Tryz.prog 28=some ⟨.sl 51,1,24,[.emp]⟩:=by kernel_rfl
theorem Ld:ti Tryz.prog 29=some ⟨.sl 85,1,24,[.emp]⟩:=by kernel_rfl
theorem E7:ti Tryz.prog 30=some ⟨.sl 62,1,24,[.emp]⟩:=by kernel_rfl
theorem Eh:ti Tryz.prog 32=some ⟨.st [(0,23),(1,24),(2,25),(3,26),(4,27),(5,28),(6,29),(7,30)],8,192,[.emp,.emp,.emp,.emp,.emp,.emp,.emp,.emp]⟩:=by kernel_rfl
theorem L6:ti Tryz.prog 33=some ⟨.int .i64,1,8,[.int .i64 0]⟩:=by kernel_rfl
theorem Ci:ti Tryz.prog 42=some ⟨.sl 47,1,24,[.emp]⟩:=by kernel_rfl
theorem Cp:ti Tryz.prog 47=some ⟨.st [(0,3),(1,9),(2,3),(3,3)],4,40,[.int .i64 0,.str [],.int .i64 0,.int .i64 0]⟩:=by kernel_rfl
theorem Mi:ti Tryz.prog 49=some ⟨.sl 83,1,24,[.emp]⟩:=by kernel_rfl
theorem Ic:ti Tryz.prog 51=some ⟨.st [(0,9),(1,49)],2,40,[.str [],.emp]⟩:=by kernel_rfl
theorem La:ti Tryz.prog 52=some ⟨.sl 60,1,24,[.emp]⟩:=by kernel_rfl
theorem I8:ti Tryz.prog 54=some ⟨.st [(0,9),(1,52)],2,40,[.str [],.emp]⟩:=by kernel_rfl
theorem Dl:ti Tryz.prog 55=some ⟨.sl 9,1,24,[.emp]⟩:=by kernel_rfl
theorem O4:ti Tryz.prog 56=some ⟨.sl 3,1,24,[.emp]⟩:=by kernel_rfl
theorem Gr:ti Tryz.prog 58=some ⟨.st [(0,9),(1,55),(2,56),(3,3),(4,3)],5,80,[.str [],.emp,.emp,.int .i64 0,.int .i64 0]⟩:=by kernel_rfl
theorem Kd:ti Tryz.prog 60=some ⟨.st [(0,3),(1,3)],2,16,[.int .i64 0,.int .i64 0]⟩:=by kernel_rfl
theorem Dk:ti Tryz.prog 62=some ⟨.st [(0,3),(1,9),(2,9),(3,3),(4,3),(5,3),(6,60)],8,80,[.int .i64 0,.str [],.str [],.int .i64 0,.int .i64 0,.int .i64 0,.int .i64 0,.int .i64 0]⟩:=by kernel_rfl
theorem X0:ti Tryz.prog 64=some ⟨.st [(0,3),(1,33)],2,16,[.int .i64 0,.int .i64 0]⟩:=by kernel_rfl
theorem Q2:ti Tryz.prog 66=some ⟨.ptr 68,1,8,[.nilp]⟩:=by kernel_rfl
theorem Wn:ti Tryz.prog 68=some ⟨.st [(0,42),(1,3),(2,32)],10,224,[.emp,.int .i64 0,.emp,.emp,.emp,.emp,.emp,.emp,.emp,.emp]⟩:=by kernel_rfl
theorem J6:ti Tryz.prog 77=some ⟨.st [(0,9),(1,55),(2,56)],3,64,[.str [],.emp,.emp]⟩:=by kernel_rfl
theorem Id:ti Tryz.prog 79=some ⟨.st [(0,9),(1,9),(2,3),(3,3),(4,52)],5,72,[.str [],.str [],.int .i64 0,.int .i64 0,.emp]⟩:=by kernel_rfl
theorem H9:ti Tryz.prog 81=some ⟨.st [(0,9),(1,9),(2,9),(3,3),(4,3),(5,55),(6,56)],7,112,[.str [],.str [],.str [],.int .i64 0,.int .i64 0,.emp,.emp]⟩:=by kernel_rfl
theorem Nx:ti Tryz.prog 83=some ⟨.st [(0,9),(1,3)],2,24,[.str [],.int .i64 0]⟩:=by kernel_rfl
theorem K9:ti Tryz.prog 85=some ⟨.st [(0,9),(1,3),(2,3),(3,3)],4,40,[.str [],.int .i64 0,.int .i64 0,.int .i64 0]⟩:=by kernel_rfl
theorem Aa1:ti Tryz.prog 87=some ⟨.ptr 89,1,8,[.nilp]⟩:=by kernel_rfl
theorem Vd:ti Tryz.prog 89=some ⟨.st [(0,42),(1,4)],2,32,[.emp,.bool false]⟩:=by kernel_rfl
theorem Ajt:ti Tryz.prog 113=some ⟨.int .i64,1,8,[.int .i64 0]⟩:=by kernel_rfl
theorem Ye:ti Tryz.prog 114=some ⟨.fn,1,8,[.nilf]⟩:=by kernel_rfl
theorem Va:ti Tryz.prog 115=some ⟨.arr 6 114,6,48,[.nilf,.nilf,.nilf,.nilf,.nilf,.nilf]⟩:=by kernel_rfl
theorem Ajs:ti Tryz.prog 117=some ⟨.st [(0,115)],6,48,[.nilf,.nilf,.nilf,.nilf,.nilf,.nilf]⟩:=by kernel_rfl
theorem No:ti Tryz.prog 120=some ⟨.st [(0,9),(1,3),(2,42)],3,48,[.str [],.int .i64 0,.emp]⟩:=by kernel_rfl
theorem P0:ti Tryz.prog 140=some ⟨.fn,1,8,[.nilf]⟩:=by kernel_rfl
theorem Pg:ti Tryz.prog 142=some ⟨.map 9 140,1,8,[.mnil]⟩:=by kernel_rfl
theorem Amo:ti Tryz.prog 169=some ⟨.ifc,1,16,[.nili]⟩:=by kernel_rfl
theorem Afy:Ht Tryz.prog [(0,23),(1,24),(2,25),(3,26),(4,27),(5,28),(6,29),(7,30)]=some [(0,1),(1,1),(2,1),(3,1),(4,1),(5,1),(6,1),(7,1)]:=by kernel_rfl
theorem All:Ht Tryz.prog [(0,9),(1,49)]=some [(0,1),(1,1)]:=by kernel_rfl
theorem Alu:Ht Tryz.prog [(0,9),(1,52)]=some [(0,1),(1,1)]:=by kernel_rfl
theorem Amg:Ht Tryz.prog [(0,9),(1,55),(2,56),(3,3),(4,3)]=some [(0,1),(1,1),(2,1),(3,1),(4,1)]:=by kernel_rfl
theorem Am1:Ht Tryz.prog [(0,42),(1,3),(2,32)]=some [(0,1),(1,1),(2,8)]:=by kernel_rfl
theorem Am0:Ht Tryz.prog [(0,9),(1,55),(2,56)]=some [(0,1),(1,1),(2,1)]:=by kernel_rfl
theorem Ana:Ht Tryz.prog [(0,42),(1,4)]=some [(0,1),(1,1)]:=by kernel_rfl
theorem Ag3 {o:BinOp}{x y:Operand}{a b:AV}(ha:a.isAgg=true)(hb:b.isAgg=true):Kv Tryz.prog o 60 x y a b=true:=U0 ha hb (by kernel_rfl)
theorem Ahu {aFrom:Int}{aTo:Int}{bFrom:Int}{bTo:Int}:M7 Tryz.prog .neq 60 (AV.agg [(.int .i64 aFrom),(.int .i64 aTo)]) (AV.agg [(.int .i64 bFrom),(.int .i64 bTo)])=some (.bool (!((aFrom==bFrom)&&(aTo==bTo)))):=by
 have he60:Tg Tryz.prog 60=true:=by kernel_rfl
 simp only [M7,Te,he60,if_true,List.drop_succ_cons,List.drop_zero,List.take_succ_cons,List.take_zero,List.take_nil,Yd,Wj,P5,Js,Dq,Kd,TK.agg,Nat.reduceAdd,Nat.reduceLT,Nat.reduceLeDiff,List.length_cons,List.length_nil,List.getD_cons_zero,List.getD_cons_succ,Vb,Bool.and_true,Option.map_some,if_false,Bool.false_eq_true,reduceCtorEq,Nat.zero_add]
 try rfl
theorem Acw {o:BinOp}{x y:Operand}{a b:AV}(ha:a.isAgg=true)(hb:b.isAgg=true):Kv Tryz.prog o 62 x y a b=true:=U0 ha hb (by kernel_rfl)
theorem Acb {aKind:Int}{aC:Av}{aA:Av}{aClass:Int}{aAirport:Int}{aN:Int}{aHours_From:Int}{aHours_To:Int}{bKind:Int}{bC:Av}{bA:Av}{bClass:Int}{bAirport:Int}{bN:Int}{bHours_From:Int}{bHours_To:Int}:M7 Tryz.prog .neq 62 (AV.agg [(.int .i64 aKind),(.str aC),(.str aA),(.int .i64 aClass),(.int .i64 aAirport),(.int .i64 aN),(.int .i64 aHours_From),(.int .i64 aHours_To)]) (AV.agg [(.int .i64 bKind),(.str bC),(.str bA),(.int .i64 bClass),(.int .i64 bAirport),(.int .i64 bN),(.int .i64 bHours_From),(.int .i64 bHours_To)])=some (.bool (!((aKind==bKind)&&((aC==bC)&&((aA==bA)&&((aClass==bClass)&&((aAirport==bAirport)&&((aN==bN)&&((aHours_From==bHours_From)&&(aHours_To==bHours_To)))))))))):=by
 have he60:Tg Tryz.prog 60=true:=by kernel_rfl
 have he62:Tg Tryz.prog 62=true:=by kernel_rfl
 simp only [M7,Te,he60,he62,if_true,List.drop_succ_cons,List.drop_zero,List.take_succ_cons,List.take_zero,List.take_nil,Yd,Wj,P5,Js,Dq,Cg,Kd,Dk,TK.agg,Nat.reduceAdd,Nat.reduceLT,Nat.reduceLeDiff,List.length_cons,List.length_nil,List.getD_cons_zero,List.getD_cons_succ,Vb,Bool.and_true,Option.map_some,if_false,Bool.false_eq_true,reduceCtorEq,Nat.zero_add]
 try rfl
theorem Ahe {o:BinOp}{x y:Operand}{a b:AV}(ha:a.isAgg=true)(hb:b.isAgg=true):Kv Tryz.prog o 83 x y a b=true:=U0 ha hb (by kernel_rfl)
theorem Agt {aName:Av}{Ht:Int}{bName:Av}{bPlaces:Int}:M7 Tryz.prog .neq 83 (AV.agg [(.str aName),(.int .i64 Ht)]) (AV.agg [(.str bName),(.int .i64 bPlaces)])=some (.bool (!((aName==bName)&&(Ht==bPlaces)))):=by
 have he83:Tg Tryz.prog 83=true:=by kernel_rfl
 simp only [M7,Te,he83,if_true,List.drop_succ_cons,List.drop_zero,List.take_succ_cons,List.take_zero,List.take_nil,Yd,Wj,P5,Js,Dq,Cg,Nx,TK.agg,Nat.reduceAdd,Nat.reduceLT,Nat.reduceLeDiff,List.length_cons,List.length_nil,List.getD_cons_zero,List.getD_cons_succ,Vb,Bool.and_true,Option.map_some,if_false,Bool.false_eq_true,reduceCtorEq,Nat.zero_add]
 try rfl
theorem Agm {o:BinOp}{x y:Operand}{a b:AV}(ha:a.isAgg=true)(hb:b.isAgg=true):Kv Tryz.prog o 85 x y a b=true:=U0 ha hb (by kernel_rfl)
theorem Agn {aName:Av}{aSlow:Int}{aFast:Int}{Ht:Int}{bName:Av}{bSlow:Int}{bFast:Int}{bPlaces:Int}:M7 Tryz.prog .neq 85 (AV.agg [(.str aName),(.int .i64 aSlow),(.int .i64 aFast),(.int .i64 Ht)]) (AV.agg [(.str bName),(.int .i64 bSlow),(.int .i64 bFast),(.int .i64 bPlaces)])=some (.bool (!((aName==bName)&&((aSlow==bSlow)&&((aFast==bFast)&&(Ht==bPlaces)))))):=by
 have he85:Tg Tryz.prog 85=true:=by kernel_rfl
 simp only [M7,Te,he85,if_true,List.drop_succ_cons,List.drop_zero,List.take_succ_cons,List.take_zero,List.take_nil,Yd,Wj,P5,Js,Dq,Cg,K9,TK.agg,Nat.reduceAdd,Nat.reduceLT,Nat.reduceLeDiff,List.length_cons,List.length_nil,List.getD_cons_zero,List.getD_cons_succ,Vb,Bool.and_true,Option.map_some,if_false,Bool.false_eq_true,reduceCtorEq,Nat.zero_add]
 try rfl
end Go.Am

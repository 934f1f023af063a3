/- Written by shrink.py from texts of ours: comments struck, what is not reached left out, names short. -/
import Derived.Test.YtjidhdlbojmlfaaGreatDoorU3
import Derived.Test.YtjidhdlbojmlfaaGreatDoorU1
import Derived.Test.YtjidhdlbojmlfaaGreatDoorU2
import Derived.RangeFuncIn
import Derived.RangeFuncLeaves
import Derived.Deep.DeepHandedRow
import Derived.Lib.LaidU8
import Derived.Lay
import Derived.MakeChecks
import Derived.LaidMore
import Derived.WideKeyElems2
import Derived.KernelRfl
import Derived.Lib.Bytealg
import Derived.Lib.ItoaNum
import Derived.Lib.Join
import Derived.Lib.AtoiAll
import Derived.Lib.ItoaMem
import Derived.Lib.AtoiAllCases
import Derived.Shelf.Strings.Builder1
import Derived.Shelf.Strings.Builder2
import Derived.Shelf.Strings.OnBuilder
import Derived.Shelf.Small.Strs
import Derived.Shelf.Strings.Builder2Cap
import Derived.Shelf.Strconv.Atoi
import Derived.Shelf.Strconv.Itoa0
import Derived.Shelf.Strconv.Itoa1
import Derived.Shelf.LaysM
import Derived.Shelf.Strconv.Itoa2
import Derived.Shelf.Strconv.Itoa3
import Derived.Shelf.Strconv.AtoiErrFast
import Derived.Shelf.Strconv.ParseIntEmpty
import Derived.Shelf.Strconv.AtoiFail
import Derived.Shelf.Strconv.Clone
import Derived.Shelf.Strconv.SyntaxError
import Derived.Shelf.LaysC
import Derived.Shelf.Strconv.ToError
import Derived.Shelf.Strconv.Lower
import Derived.Shelf.Strconv.ParseUint10
import Derived.Shelf.Strconv.ParseUint10Empty
import Derived.Shelf.Strconv.ParseUint10Any
import Derived.Shelf.Strconv.ParseInt10
import Derived.Shelf.Strconv.AtoiLong
import Derived.Shelf.Strconv.AtoiInnerAll
import Derived.Shelf.Strconv.RangeError
import Derived.Shelf.Strconv.ToErrorRange
import Derived.Shelf.Strconv.AtoiAll
import Derived.Shelf.Strconv.ErrVarAll
import Derived.Shelf.Strings.Search1
import Derived.Test.YtjidhdlbojmlfaaGreatDoorProg
namespace Go.Am
open Go
set_option linter.unusedSimpArgs false
set_option linter.unusedVariables false
set_option linter.unusedSectionVars false
inductive AFz (h h2:Ag):AO→AO→Prop
 | same (x:AO):AFz h h2 x x
 | rows (g st:Nat) (rs rs':List (List AV)) (hl:rs.length=rs'.length) (hr : ∀ r ∈ rs',Es st r) (hc : ∀ i j,i<rs.length→j<st→Fz h h2 (cell rs i j) (cell rs' i j)):AFz h h2 (.rows g st rs) (.rows g st rs')
def HFz (h h2:Ag):Prop := ∀ o y,h2 o=some y → ∃ x,h o=some x∧AFz h h2 x y
theorem AFz.gen {h h2:Ag}{x y:AO}(k:AFz h h2 x y):x.gen=y.gen:=by cases k <;> rfl
theorem HFz.subG {h h2:Ag}(k:HFz h h2):Adk h2 h:=fun o y e=>let ⟨x,h1,h2⟩:=k o y e; ⟨x,h1,h2.gen⟩
theorem Sim.fz {P:Program}[GW P]{B:Base P}{mu:Mu}{h h2:Ag}{w:World}(s:Sim B mu h w)(k:HFz h h2):Sim B mu h2 w:=by
 refine⟨s.base,s.muOk,s.fin,?_,?_,?_,?_,s.glob,fun o g x e=>by
  obtain⟨y,h1,hx⟩:=k o _ e
  cases hx with
  | same _=>exact s.blks o g x h1⟩
 ·obtain⟨N,hN⟩:=s.finh
  refine⟨N,fun o ho=>?_⟩
  cases hq:h2 o with
  | none=>rfl
  | some y=>obtain⟨x,h1,_⟩:=k o y hq; rw [hN o ho] at h1; cases h1
 ·intro o g st rs e
  obtain⟨x,h1,hx⟩:=k o _ e
  cases hx with
  | same _=>
   obtain⟨l,k1,k2,k3,k4,k5,k6⟩:=s.rows o g st rs h1
   exact⟨l,k1,k2,k3,k4,k5,fun i j hi hj=>let ⟨c,c1,c2⟩:=k6 i j hi hj; ⟨c,c1,Nj s k.subG (.same _) c2⟩⟩
  | rows _ _ rs0 _ hl hr hc=>
   obtain⟨l,k1,k2,k3,k4,k5,k6⟩:=s.rows o g st rs0 h1
   exact⟨l,k1,k2,k3,by rw [← hl]; exact k4,hr,fun i j hi hj=>let ⟨c,c1,c2⟩:=k6 i j (hl ▸ hi) hj; ⟨c,c1,Nj s k.subG (hc i j (hl ▸ hi) hj) c2⟩⟩
 ·intro o g es e
  obtain⟨x,h1,hx⟩:=k o _ e
  cases hx with
  | same _=>
   obtain⟨l,k1,k2,ens,clock,k3,k4,k5⟩:=s.maps o g es h1
   exact⟨l,k1,k2,ens,clock,k3,k4,fun i hi=>⟨Nj s k.subG (.same _) (k5 i hi).1,Nj s k.subG (.same _) (k5 i hi).2⟩⟩
 ·intro o o' x x' l l' e e' h1 h2 hb
  obtain⟨y,k1,k2⟩:=k _ _ e
  obtain⟨y',k1',k2'⟩:=k _ _ e'
  exact s.inj o o' y y' l l' k1 k1' (by rw [k2.gen]; exact h1) (by rw [k2'.gen]; exact h2) hb
section
variable {P:Program} [GW P] {f:FuncId} {n:Nat} {d:FK} {fr:Nat→AV} {ds:List AD} {h h2:Ag} {u:AU} {Q:QT} {k:List Item}
theorem Ad2 {fn:Func}{vs:List AV}{v':AV}(hf:P.funcs[f]? = some fn)(hx:Mk P h fr fn.results.toList=some vs)(hs:HFz h h2)(hz:Fz h h2 (Lp vs) v')(hu:d=false)(hq:Q (.ret v') h2 u):Q3 P f n d .ret fr [] h u Q:=by
 intro B mu w a cs todo mode p hm
 obtain⟨c,h1,h2'⟩:=Tq p.sim p.fr hx
 have hd:a.defers=[]:=p.ds
 have hmode:=hm.ret_inv
 refine⟨.returned c,w,cs,_,.ret v',h2,mu,u,hq,Steps.refl P _,rfl,rfl,(by subst hu; exact⟨hmode,hd,fn,hf,h1⟩),Nj p.sim hs.subG hz h2',p.sim.fz hs,(Gn.subG hs.subG).g,?_⟩
 subst hu
 rfl
end
inductive HL (h h2:Ag):List (Option AO)→List (Option AO)→Prop
 | nil:HL h h2 [] []
 | keep {x:Option AO} {xs ys:List (Option AO)} (r:HL h h2 xs ys):HL h h2 (x::xs) (x::ys)
 | drop {x:Option AO} {xs ys:List (Option AO)} (r:HL h h2 xs ys):HL h h2 (x::xs) (none::ys)
 | fz {g st:Nat} {row row':List AV} {xs ys:List (Option AO)} (hz:LF h h2 row row') (hl:row'.length=st) (hf:row'.all AV.flat=true) (r:HL h h2 xs ys):HL h h2 (some (.rows g st [row])::xs) (some (.rows g st [row'])::ys)
theorem HL.get {h h2:Ag}{xs ys:List (Option AO)}(k:HL h h2 xs ys):xs.length=ys.length ∧ ∀ (j:Nat) (y:AO),ys[j]? = some (some y) → ∃ x,xs[j]? = some (some x)∧AFz h h2 x y:=by
 induction k with
 | nil=>exact⟨rfl,fun j y e=>by simp at e⟩
 | keep r ih=>
  refine⟨by simp [ih.1],fun j y e=>?_⟩
  cases j with
  | zero=>simp only [List.getElem?_cons_zero,Option.some.injEq] at e; subst e; exact⟨y,by simp,.same _⟩
  | succ j=>simpa using ih.2 j y (by simpa using e)
 | drop r ih=>
  refine⟨by simp [ih.1],fun j y e=>?_⟩
  cases j with
  | zero=>simp at e
  | succ j=>simpa using ih.2 j y (by simpa using e)
 | @fz g st row row' xs ys hz hl hf r ih=>
  refine⟨by simp [ih.1],fun j y e=>?_⟩
  cases j with
  | zero=>
   simp only [List.getElem?_cons_zero,Option.some.injEq] at e
   subst e
   refine⟨.rows g st [row],by simp only [List.getElem?_cons_zero],.rows g st [row] [row'] rfl ?_ ?_⟩
   ·intro r hr
    rw [List.mem_singleton.1 hr]
    exact⟨hl,fun v hv=>List.all_eq_true.1 hf v hv⟩
   ·intro i j hi hj
    have:i=0:=by simpa using hi
    subst this
    have:=hz.all.2 j (by rw [hz.all.1,hl]; exact hj)
    simpa [cell] using this
  | succ j=>simpa using ih.2 j y (by simpa using e)
theorem HL.hfz {h0:Ag}{ids:List Nat}{N:Nat}{xs ys:List (Option AO)}(hI:Ids h0 ids N)(hl:xs.length=N)(k:HL (hp h0 ids xs) (hp h0 ids ys) xs ys):HFz (hp h0 ids xs) (hp h0 ids ys):=by
 intro o y e
 obtain⟨k1,k2⟩:=k.get
 by_cases ho:o ∈ ids
 ·obtain⟨j,hj,rfl⟩:=List.mem_iff_getElem.1 ho
  have ej:ids[j]=ix ids j:=by simp [ix,List.getD,hj]
  rw [ej] at e ⊢
  have hjl:j<ys.length:=by rw [← k1,hl,← hI.len]; exact hj
  have hy:=hI.at (xs:=ys) (j:=j) (x:=ys[j]) (by rw [← k1,hl]) (List.getElem?_eq_getElem hjl)
  rw [hy] at e
  obtain⟨x,hx,hz⟩:=k2 j y (by rw [List.getElem?_eq_getElem hjl,e])
  exact⟨x,hI.at hl hx,hz⟩
 ·rw [Rq ho] at e
  exact⟨y,by rw [Rq ho]; exact e,.same _⟩
def R6:List Nat→List (Option AO)→List (Option AO)
 | [],xs=>xs
 | j::js,xs=>R6 js (xs.set j none)
def Rn:List Nat→List (Option AO)→List (Option AO)→List (Option AO)
 | j::js,y::ys,xs=>(Rn js ys (xs.set j none)).set j y
 | _,_,xs=>xs
def Wy (ids:List Nat):List Nat→List Nat
 | []=>[]
 | j::js=>ix ids j::Wy ids js
def Qy (N:Nat):List Nat→Bool
 | []=>true
 | j::js=>Nat.blt j N && !js.contains j&&Qy N js
theorem Agd : ∀ (js:List Nat) (xs:List (Option AO)),(R6 js xs).length=xs.length
 | [],_=>rfl
 | j::js,xs=>by rw [R6,Agd js]; simp
theorem Ad0 : ∀ (js:List Nat) (ys xs:List (Option AO)),(Rn js ys xs).length=xs.length
 | [],_,_=>by simp [Rn]
 | _::_,[],_=>by simp [Rn]
 | j::js,y::ys,xs=>by rw [Rn,List.length_set,Ad0 js]; simp
theorem Aeu : ∀ (js:List Nat) (xs:List (Option AO)) (i:Nat),xs[i]? = some none→(R6 js xs)[i]? = some none
 | [],_,_,h=>h
 | j::js,xs,i,h=>Aeu js _ i (by
  rw [List.getElem?_set]
  split
  ·rename_i hq; subst hq
   rw [if_pos]
   rcases Nat.lt_or_ge j xs.length with hh | hh
   ·exact hh
   ·rw [List.getElem?_eq_none hh] at h; cases h
  ·exact h)
theorem Aiv : ∀ (js:List Nat) (xs:List (Option AO)) (i:Nat),i ∈ js→i<xs.length→(R6 js xs)[i]? = some none
 | j::js,xs,i,hm,hi=>by
  rcases List.mem_cons.1 hm with rfl | hm
  ·exact Aeu js _ i (by simp [hi])
  ·exact Aiv js _ i hm (by simpa using hi)
section
variable {h0:Ag} {ids:List Nat} {N:Nat}
theorem Y3 (hI:Ids h0 ids N) : ∀ {js:List Nat} {ys xs:List (Option AO)},xs.length=N→js.length=ys.length→Qy N js=true→hp (hp h0 ids (R6 js xs)) (Wy ids js) ys=hp h0 ids (Rn js ys xs)
 | [],[],xs,_,_,_=>rfl
 | j::js,y::ys,xs,hl,hj,hk=>by
  simp only [Qy,Bool.and_eq_true] at hk
  simp only [Wy,hp,R6,Rn]
  rw [Y3 hI (js:=js) (ys:=ys) (xs:=xs.set j none) (by simpa using hl) (by simpa using hj) hk.2]
  rw [hI.set (by rw [Ad0]; simpa using hl) hk.1.1]
theorem Ids.sub' (hI:Ids h0 ids N){js:List Nat}{xs:List (Option AO)}(hl:xs.length=N)(hk:Qy N js=true):Ids (hp h0 ids (R6 js xs)) (Wy ids js) js.length:=by
 have hlt : ∀ {js:List Nat},Qy N js=true → ∀ j ∈ js,j<N:=by
  intro js
  induction js with
  | nil=>intro _ j hj; cases hj
  | cons i js ih=>
   intro hk j hj
   simp only [Qy,Bool.and_eq_true] at hk
   rcases List.mem_cons.1 hj with rfl | hj
   ·simpa using hk.1.1
   ·exact ih hk.2 j hj
 have hmem : ∀ {js:List Nat} {o:Nat},o ∈ Wy ids js → ∃ j ∈ js,o=ix ids j:=by
  intro js
  induction js with
  | nil=>intro o ho; cases ho
  | cons i js ih=>
   intro o ho
   rcases List.mem_cons.1 ho with rfl | ho
   ·exact⟨i,List.mem_cons_self ..,rfl⟩
   ·obtain⟨j,h1,h2⟩:=ih ho; exact⟨j,List.mem_cons_of_mem _ h1,h2⟩
 have hinj : ∀ {i j:Nat},i<N→j<N→ix ids i=ix ids j→i=j:=by
  intro i j hi hj e
  rw [← hI.len] at hi hj
  simp only [ix,List.getD,List.getElem?_eq_getElem hi,List.getElem?_eq_getElem hj,Option.getD_some] at e
  rcases Nat.lt_trichotomy i j with hh | hh | hh
  ·exact absurd e (List.pairwise_iff_getElem.1 hI.nodup i j hi hj hh)
  ·exact hh
  ·exact absurd e.symm (List.pairwise_iff_getElem.1 hI.nodup j i hj hi hh)
 refine⟨?_,?_,?_⟩
 ·have key : ∀ {js:List Nat},Qy N js=true→(Wy ids js).Nodup:=by
   intro js
   induction js with
   | nil=>intro _; exact List.nodup_nil
   | cons i js ih=>
    intro hk
    have hk':=hk
    simp only [Qy,Bool.and_eq_true] at hk
    refine List.nodup_cons.2 ⟨fun hm=>?_,ih hk.2⟩
    obtain⟨j,h1,h2⟩:=hmem hm
    have:=hinj (by simpa using hk.1.1) (hlt hk.2 j h1) h2
    subst this
    have:=hk.1.2
    simp [h1] at this
  exact key hk
 ·intro o ho
  obtain⟨j,h1,rfl⟩:=hmem ho
  exact hI.at (by rw [Agd]; exact hl) (Aiv js xs j h1 (by rw [hl]; exact hlt hk j h1))
 ·clear hk
  induction js with
  | nil=>rfl
  | cons i js ih=>simp only [Wy,List.length_cons]; rw [ih]
end
def Ci {α:Type}(S:α→AV→Ag→Prop)(h0:Ag)(m:R α):AR→Ag→Prop:=fun r h'=>match m with
 | .ok a => ∃ v,r=.ret v∧S a v h'
 | .pan v=>r=.panic v.av∧h'=h0
 | .bad=>False
def Ac6 {α:Type}(S:α→AV→Ag→Prop)(h0:Ag):Spec α:=⟨fun m=>m≠.bad,fun h=>h rfl,fun m r h' _=>Ci S h0 m r h'⟩
def tkf (ids:List Nat):Nat→Nat→List Nat
 | 0,_=>[]
 | k+1,j=>ix ids j::tkf ids k (j+1)
theorem Aet : ∀ (ids:List Nat) (k j:Nat),j+k≤ids.length→(ids.drop j).take k=tkf ids k j
 | ids,0,j,_=>by simp [tkf]
 | ids,k+1,j,h=>by
  have hj:j<ids.length:=by omega
  rw [List.drop_eq_getElem_cons hj,List.take_succ_cons,tkf,Aet ids k (j+1) (by omega)]
  simp [ix,List.getD,hj]
section
variable {P:Program} [GW P] {f:FuncId} {n:Nat} {α:Type} {m:R α} {S:α→AV→Ag→Prop} {h0:Ag}
theorem A9 {fn : Func} {c : Code} {args : List AV} {os0 : List Nat} {K : Nat} {xs : List (Option AO)} (N : Nat) (hf : P.funcs[f]? = some fn) (hb : fn.body = some c) (hn : fn.name ≠ "runtime.NumGoroutine") (hnt : fn.ntmps = n) (hl : Nat.ble args.length n = true)
  (hI0 : Ids h0 os0 K) (hx : xs.length = K)
  (hr : ∀ ids, (∀ j, Nat.blt j K = true → ix ids j = ix os0 j) → Ids h0 ids (K + N) → WR P f n false (Ac6 S h0) m [.code c] (A5 (Xd 0 args)) [] (hp h0 ids (xs ++ List.replicate N none)) .ret) :
  m ≠ .bad → Bl P f args (hp h0 os0 xs) (Ci S h0 m) := by
 intro hb'
 refine V4 hf hb hn hnt (by simpa using hl) ?_
 refine Zo N os0 fun os h1 h2 h3 h4 => ?_
 have hout : ∀ o ∈ os, o ∉ os0 := fun o ho => h4 o ho
 have hI : Ids h0 (os0 ++ os) (K + N) := by
  refine ⟨List.nodup_append.2 ⟨hI0.nodup, h2, fun a ha b hb hq => hout b hb (hq ▸ ha)⟩, fun o ho => ?_, by simp [hI0.len, h1]⟩
  rcases List.mem_append.1 ho with ho | ho
  ·exact hI0.fresh o ho
  ·have := h3 o ho
   rwa [Rq (hout o ho)] at this
 have e : hp h0 (os0 ++ os) (xs ++ List.replicate N none) = hp h0 os0 xs := by
  rw [Vx (by rw [hI0.len, hx]), Sf fun o ho => hI.fresh o (List.mem_append_right _ ho)]
 have := hr (os0 ++ os) (fun j hj => by
  have hj' : j < os0.length := by rw [hI0.len]; simpa using hj
  simp [ix, List.getD, List.getElem?_append_left hj']) hI hb'
 rw [e] at this
 refine Rx (fun t => ?_) this
 rcases R7 args 0 t with h | ⟨_, h⟩
 ·exact .inl h
 ·exact .inr h
section
variable {ids:List Nat} {xs:List (Option AO)} {K N:Nat} {l:List (Nat×AV)} {k:List Item} {u:AU}
theorem Afx (hI:Ids h0 ids (K+N)){ys:List (Option AO)}(hy:ys.length=K):hp h0 ids (ys++List.replicate N none)=hp h0 (tkf ids K 0) ys:=by
 have e:=Aet ids K 0 (by rw [hI.len]; omega)
 rw [List.drop_zero] at e
 rw [← e]
 have e2:ids=ids.take K++ids.drop K:=(List.take_append_drop K ids).symm
 conv=>lhs; rw [e2]
 rw [Vx (by rw [List.length_take,hI.len,hy]; omega),Sf fun o ho=>hI.fresh o (List.mem_of_mem_drop ho)]
theorem Dr {fn:Func}{a:α}{vs:List AV}{v:AV}(ys:List (Option AO))(hf:P.funcs[f]? = some fn)(hI:Ids h0 ids (K+N))(hl:xs.length=K+N)(hr:Mk P (hp h0 ids xs) (A5 l) fn.results.toList=some vs)
  (hy:ys.length=K) (hx:HL (hp h0 ids xs) (hp h0 ids (ys++List.replicate N none)) xs (ys++List.replicate N none)) (hz:Fz (hp h0 ids xs) (hp h0 ids (ys++List.replicate N none)) (Lp vs) v) (hS:S a v (hp h0 (tkf ids K 0) ys)) :
  WR P f n false (Ac6 S h0) (.ok a) (.code .ret::k) (A5 l) [] (hp h0 ids xs) u:=fun _=>by
 refine Zi (Ad2 hf hr (hx.hfz hI hl) hz rfl ⟨v,rfl,?_⟩)
 rw [Afx hI hy]; exact hS
theorem B4 {fn:Func}{a:α}{vs:List AV}{v:AV}(ys:List (Option AO))(hf:P.funcs[f]? = some fn)(hI:Ids h0 ids (K+N))(hl:xs.length=K+N)(hr:Mk P (hp h0 ids xs) (A5 l) fn.results.toList=some vs)
  (hy:ys.length=K) (hx:HL (hp h0 ids xs) (hp h0 ids (ys++List.replicate N none)) xs (ys++List.replicate N none)) (hz:Fz (hp h0 ids xs) (hp h0 ids (ys++List.replicate N none)) (Lp vs) v) (hS:S a v (hp h0 (tkf ids K 0) ys)) :
  WR P f n false (Ac6 S h0) (.ok a) [] (A5 l) [] (hp h0 ids xs) u:=fun _=>by
 refine Ab5 (Ad2 hf hr (hx.hfz hI hl) hz rfl ⟨v,rfl,?_⟩)
 rw [Afx hI hy]; exact hS
theorem Ao {fn:Func}{v:PV}{fr:Nat→AV}(hf:P.funcs[f]? = some fn)(hI:Ids h0 ids (K+N)):WU P f n false (Ac6 S h0) (.pan v) (.pan v.av false) fr [] (hp h0 ids xs) u:=fun _=>
 Aes hf (hI.sub xs) (.same _) ⟨rfl,rfl⟩
end
end
section
variable {P:Program} [GW P] {f:FuncId} {n:Nat} {d:FK} {β γ:Type} {Q:Spec β} {m:R β} {ds:List AD} {u:AU} {k:List Item} {l:List (Nat×AV)} {F:γ→R β}
variable {all r:List Oper} {ty:TypeId} {pos:String} {after:Array Edge} {h0:Ag} {ids:List Nat} {xs:List (Option AO)} {N:Nat}
theorem Al6 {ops:List Oper}{fr:Nat→AV}(js:List Nat){xs zs:List (Option AO)}(ys:List (Option AO))(hI:Ids h0 ids N)(hl:xs.length=N)(hk:Qy N js=true)(hz:js.length=zs.length)(e:Rn js zs xs=ys)(hr:WO P f n d Q k all m ops fr ds (hp h0 ids ys) u) :
  WO P f n d Q k all m ops fr ds (hp (hp h0 ids (R6 js xs)) (Wy ids js) zs) u:=by
 subst e
 rw [Y3 hI hl hz hk]; exact hr
theorem Ak {α:Type}{dst:Option Tmp}{x:Operand}{as0:List Operand}{ts:Array TypeId}{g:FuncId}{fst cap A:List AV}{gd:Option (Nat×Bool)}{mg:R α}{S:α→AV→Ag→Prop}{rest:α→R γ}{zs:List (Option AO)}(js:List Nat)(hI:Ids h0 ids N)(hl:xs.length=N)(hk:Qy N js=true)
  (hc:mg≠.bad→Bl P g A (hp (hp h0 ids (R6 js xs)) (Wy ids js) zs) (Ci S (hp h0 ids (R6 js xs)) mg)) (hz:js.length=zs.length) (e2:Rn js zs xs=xs)
  (ht:Hx n dst=true) (hw:Fw all (A5 l) ⟨dst,.call ⟨.value x,⟨as0⟩,ts⟩,ty,pos,after,gd⟩=some true) (hx:ev (A5 l) x=.func (.func g) fst cap) (ha:fst++H5 (A5 l) as0++cap=A)
  (hp' : ∀ v,mg=.pan v→WU P f n d Q (.pan v) (.pan v.av false) (A5 l) ds (hp h0 ids (R6 js xs)) u)
  (hk : ∀ a,mg=.ok a → ∀ v h',S a v h'→WO P f n d Q k all ((rest a).bind F) r (Hd (A5 l) dst v) ds h' u) :
  WO P f n d Q k all ((mg.bind rest).bind F) (⟨dst,.call ⟨.value x,⟨as0⟩,ts⟩,ty,pos,after,gd⟩::r) (A5 l) ds (hp h0 ids xs) u:=by
 rw [Y3 hI hl hz ‹Qy N js=true›,e2] at hc
 refine Ag5 (R.bind_assoc _ _ _) (Pq ht hw fun hb K U hK hU=>?_)
 simp only [Kr,hx]
 rw [ha]
 have hmb:mg≠.bad:=fun q=>by rw [q] at hb; exact Q.bad hb
 refine(hc hmb).mono fun r' h' hr=>?_
 cases hm:mg with
 | bad=>exact absurd hm hmb
 | ok a=>
  rw [hm] at hr hb hK
  obtain⟨v,rfl,hS⟩:=hr
  exact hK _ _ _ _ (hk a hm v h' hS)
 | pan v=>
  rw [hm] at hr hb hU
  obtain⟨rfl,rfl⟩:=hr
  exact hU _ _ _ _ _ (hp' v hm hb)
theorem Ap {ops:List Oper}{t:Nat}{v:AV}{h:Ag}(hr:WO P f n d Q k all m ops (A5 ((t,v)::l)) ds h u):WO P f n d Q k all m ops (Hd (A5 l) (some t) v) ds h u:=by rw [Iy]; exact hr
theorem Qt {α:Type}{pre:List (List Nat)}{plan:H8}{pend:Su}{i:Nat}{dst:Option Tmp}{x:Operand}{as0:List Operand}{ts:Array TypeId}{g:FuncId}{fst cap A:List AV}{gd:Option (Nat×Bool)}{mg:R α}{S:α→AV→Ag→Prop}{rest:α→R γ}{zs:List (Option AO)}(js:List Nat)(hI:Ids h0 ids N)(hl:xs.length=N)(hk:Qy N js=true)
  (hc:mg≠.bad→Bl P g A (hp (hp h0 ids (R6 js xs)) (Wy ids js) zs) (Ci S (hp h0 ids (R6 js xs)) mg)) (hz:js.length=zs.length) (e2:Rn js zs xs=xs) (ho:all[i]? = some ⟨dst,.call ⟨.value x,⟨as0⟩,ts⟩,ty,pos,after,gd⟩)
  (ht:Hx n dst=true) (hw:Fw all (A5 l) ⟨dst,.call ⟨.value x,⟨as0⟩,ts⟩,ty,pos,after,gd⟩=some true) (hx:ev (A5 l) x=.func (.func g) fst cap) (ha:fst++H5 (A5 l) as0++cap=A)
  (hp' : ∀ v,mg=.pan v → ∀ fr,(∀ t,(all.any fun o=>o.dst==some t)=false→fr t=A5 l t)→WU P f n d Q (.pan v) (.pan v.av false) fr ds (hp h0 ids (R6 js xs)) u)
  (hk : ∀ a,mg=.ok a → ∀ v h',S a v h'→M5 P all pre i h' pend∧WP P f n d Q k all pre ((rest a).bind F) plan pend (Hd (A5 l) dst v) ds h' u) :
  WP P f n d Q k all pre ((mg.bind rest).bind F) ((true,i)::plan) pend (A5 l) ds (hp h0 ids xs) u:=by
 rw [Y3 hI hl hz ‹Qy N js=true›,e2] at hc
 refine Ahe (R.bind_assoc _ _ _) (Abd ho ht hw fun hb K U hK hU=>?_)
 simp only [Kr,hx]
 rw [ha]
 have hmb:mg≠.bad:=fun q=>by rw [q] at hb; exact Q.bad hb
 refine(hc hmb).mono fun r' h' hr=>?_
 cases hm:mg with
 | bad=>exact absurd hm hmb
 | ok a=>
  rw [hm] at hr hb hK
  obtain⟨v,rfl,hS⟩:=hr
  obtain⟨k1,k2⟩:=hk a hm v h' hS
  exact hK _ _ _ _ k1 k2
 | pan v=>
  rw [hm] at hr hb hU
  obtain⟨rfl,rfl⟩:=hr
  exact hU _ _ _ _ _ (fun fr' hf=>hp' v hm fr' hf hb)
theorem Sn {pre:List (List Nat)}{plan:H8}{pend:Su}{i:Nat}{fr:Nat→AV}(js:List Nat){xs zs:List (Option AO)}(ys:List (Option AO))(hI:Ids h0 ids N)(hl:xs.length=N)(hk:Qy N js=true)(hz:js.length=zs.length)(e:Rn js zs xs=ys)
  (hr:M5 P all pre i (hp h0 ids ys) pend∧WP P f n d Q k all pre m plan pend fr ds (hp h0 ids ys) u) :
  M5 P all pre i (hp (hp h0 ids (R6 js xs)) (Wy ids js) zs) pend∧WP P f n d Q k all pre m plan pend fr ds (hp (hp h0 ids (R6 js xs)) (Wy ids js) zs) u:=by
 subst e
 rw [Y3 hI hl hz hk]; exact hr
theorem Si {pre:List (List Nat)}{plan:H8}{pend:Su}{t:Nat}{v:AV}{h:Ag}(hr:WP P f n d Q k all pre m plan pend (A5 ((t,v)::l)) ds h u):WP P f n d Q k all pre m plan pend (Hd (A5 l) (some t) v) ds h u:=by rw [Iy]; exact hr
end
theorem Adc {P:Program}[GW P]{f:FuncId}{n:Nat}{α:Type}{e:α→AV}{hdl:PV→R α}{h0:Ag}{ids:List Nat}{N:Nat}{xs:List (Option AO)}{l:List (Nat×AV)}{k:List Item}{u:AU}{fn:Func}{a:α}{vs:List AV}(hf:P.funcs[f]? = some fn)(hI:Ids h0 ids N)
  (hr:Mk P (hp h0 ids xs) (A5 l) fn.results.toList=some vs) (hz:Fz (hp h0 ids xs) h0 (Lp vs) (e a)) :
  WR P f n false (Po e h0 hdl) (.ok a) (.code .ret::k) (A5 l) [] (hp h0 ids xs) u:=fun _=>
 Zi (Vd hf hr (hI.sub xs) hz rfl ⟨rfl,rfl⟩)
end Go.Am
namespace Go.Am
open Go
set_option linter.unusedSimpArgs false
set_option linter.unusedVariables false
set_option linter.unusedSectionVars false
def cut {α:Type}(l:List α)(a b:Int):List α:=(l.drop a.toNat).take (b.toNat - a.toNat)
section
variable {P:Program} [GW P] {h:Ag} {t et:TypeId} {a b st:Nat} {z:List AV} {E:TI} {s:List UInt8} {k k':IntKind} {lo hi:Int} {α:Type} {e:α→List AV} {L:List α}
theorem Agz {n:Nat}(h1:0≤lo)(h2:lo≤(n:Int))(d:Nat):Ix (some (.int k lo)) d n=some lo.toNat:=by simp only [Ix]; rw [if_pos ⟨h1,h2⟩]
theorem Aim (hT:ti P t=some ⟨.str,a,b,z⟩)(hc:0≤lo∧lo≤hi∧hi≤(s.length:Int)):Od P h t (.str s) (some (.int k lo)) (some (.int k' hi)) none=some (.str (cut s lo hi)):=by
 obtain⟨h1,h2,h3⟩:=hc
 simp only [Od,hT]
 rw [Agz (by omega) h3]
 simp only
 rw [Agz h1 (by omega)]
 rfl
theorem Af1 (hT:ti P t=some ⟨.str,a,b,z⟩)(hc:0≤lo∧lo≤(s.length:Int)):Od P h t (.str s) (some (.int k lo)) none none=some (.str (s.drop lo.toNat)):=by
 simp only [Od,hT,Ix]
 rw [if_pos hc]
 simp only [Option.some.injEq,AV.str.injEq]
 rw [List.take_of_length_le (by simp)]
theorem Anj (hT:ti P t=some ⟨.str,a,b,z⟩)(hc:0≤hi∧hi≤(s.length:Int)):Od P h t (.str s) none (some (.int k hi)) none=some (.str (s.take hi.toNat)):=by
 simp only [Od,hT]
 rw [Agz hc.1 hc.2]
 simp only [Ix,List.drop_zero,Nat.sub_zero]
theorem Mn (hT:ti P t=some ⟨.sl et,a,b,z⟩)(hE:ti P et=some E)(hs:st=E.size)(hc:0≤lo∧lo≤(L.length:Int)):Od P h t (.sl st (L.map e)) (some (.int k lo)) none none=some (.sl st ((L.drop lo.toNat).map e)):=by
 simp only [Od,hT,hE,Ix]
 rw [if_pos hs]
 simp only [List.length_map]
 rw [if_pos hc]
 simp only [Option.some.injEq,AV.sl.injEq,true_and]
 rw [List.take_of_length_le (by simp),List.map_drop]
theorem R8 {m o g r c:Nat}{i:Int}(j:Nat)(hT:ti P t=some ⟨.arr m et,a,b,z⟩)(hE:ti P et=some E)(hi:i=(j:Int))(hj:Nat.blt j m=true):Jn P h t (.ptr o g r c) (.int k i)=some (.ptr o g r (c+j * E.size)):=by
 subst hi
 have:j<m:=by simpa using hj
 simp only [Jn,hT,hE]
 rw [if_pos ⟨by omega,by omega⟩,Int.toNat_natCast]
end
section
variable {P:Program} [GW P] {f:FuncId} {n:Nat} {d:FK} {β γ:Type} {Q:Spec β} {fr:Nat→AV} {ds:List AD} {h:Ag} {u:AU} {k:List Item} {F:γ→R β} {all:List Oper}
theorem Uy {p:Prop}[Decidable p]{A B:R γ}{ops:List Oper}(ht:p→WO P f n d Q k all (A.bind F) ops fr ds h u)(hf:¬ p→WO P f n d Q k all (B.bind F) ops fr ds h u):WO P f n d Q k all ((if p then A else B).bind F) ops fr ds h u:=by
 have e:(if p then A else B).bind F=if p then A.bind F else B.bind F:=by split <;> rfl
 rw [e]; exact An8 ht hf
theorem Am0 {p:Prop}[Decidable p]{A:R γ}{todo:List Item}(hk:p→WR P f n d Q (A.bind F) todo fr ds h u):WR P f n d Q ((if p then A else .bad).bind F) todo fr ds h u:=by
 intro hb
 by_cases hp:p
 ·simp only [if_pos hp] at hb ⊢; exact hk hp hb
 ·simp only [if_neg hp] at hb; exact absurd hb Q.bad
theorem Aom {ops:List Oper}:WO P f n d Q k all ((R.bad:R γ).bind F) ops fr ds h u:=fun hb=>absurd hb Q.bad
end
def Ag4 (v:AV)(b:Bool):Prop:=match b with
 | false=>v=.nili
 | true => ∃ t x,v=.iface t x
theorem Aj9 {P:Program}[GW P]{t:TypeId}{v:AV}{b:Bool}{s by':Nat}{z:List AV}(hT:ti P t=some ⟨.ifc,s,by',z⟩)(hv:Ag4 v b):Na P .neq t v .nili=some (.bool b):=by
 cases b with
 | false=>obtain rfl:v=.nili:=hv; exact Abv hT
 | true=>obtain⟨t',x,rfl⟩ : ∃ t x,v=.iface t x:=hv; exact Aah hT
theorem Ah1 {P:Program}[GW P]{o:BinOp}{t:TypeId}{x:Operand}{c:Value}{v:AV}{b:Bool}(ho:o=.eql∨o=.neq)(hv:Ag4 v b):Lo P o t x (.const c) v .nili=true:=by
 cases b with
 | false=>obtain rfl:v=.nili:=hv; rcases ho with rfl | rfl <;> simp [Lo]
 | true=>obtain⟨t',x,rfl⟩ : ∃ t x,v=.iface t x:=hv; rcases ho with rfl | rfl <;> rfl
section
variable {P:Program} [GW P] [GW P]
theorem Q8.mk {g : FuncId} {gf : Func} {gc : Code} (h1 : P.funcs[g]? = some gf) (h2 : gf.body = some gc) (h3 : gf.name ≠ "runtime.NumGoroutine") : Q8 P g := ⟨gf, gc, h1, h2, h3⟩
def Aou (w:World)(v:AV)(mu:Mu)(h:Ag):Ending→World→Prop:=fun e w'=>Go.RowKit.Below w.heap.size w w' ∧ ∃ c,e=.returned c∧RV h mu w' v c
theorem Ad7 {α:Type}{g:FuncId}{A:List AV}{m:R α}{e:α→AV}(hb:Q8 P g)(hm : ∀ p,m≠.pan p)
  (hc : ∀ a,m=.ok a → ∀ (B:Base P) mu h w (cargs:Array Value),Sim B mu h w→Ot h mu w A cargs.toList→Calls P g cargs w (Aou w (e a) mu h)):CP P g A m e:=by
 intro h hne
 refine⟨hb,fun B mu w cargs s ha=>?_⟩
 cases hq:m with
 | bad=>exact absurd hq hne
 | pan p=>exact absurd hq (hm p)
 | ok a=>
  refine(hc a hq B mu h w cargs s ha).mono ?_
  rintro en w' ⟨k,c,rfl,hv⟩
  obtain⟨k1,k2⟩:=Below.ext s k
  exact⟨.ret (e a),h,mu,⟨rfl,rfl⟩,k1,k2,hv⟩
theorem An0 {α:Type}{g:FuncId}{A:List AV}{m:R α}{S:α→AV→Ag→Prop}{h:Ag}(hb:Q8 P g)(hm : ∀ p,m≠.pan p)
  (hc : ∀ a,m=.ok a → ∀ (B:Base P) mu w (cargs:Array Value),Sim B mu h w→Ot h mu w A cargs.toList→Calls P g cargs w fun en w'=>Go.RowKit.Below w.heap.size w w' ∧ ∃ v c,en=.returned c∧S a v h∧RV h mu w' v c):m≠.bad→Bl P g A h (Ci S h m):=by
 intro hne
 refine⟨hb,fun B mu w cargs s ha=>?_⟩
 cases hq:m with
 | bad=>exact absurd hq hne
 | pan p=>exact absurd hq (hm p)
 | ok a=>
  refine(hc a hq B mu w cargs s ha).mono ?_
  rintro en w' ⟨k,v,c,rfl,hS,hv⟩
  obtain⟨k1,k2⟩:=Below.ext s k
  exact⟨.ret v,h,mu,⟨v,rfl,hS⟩,k1,k2,hv⟩
theorem Afp {h:Ag}{mu:Mu}{w:World}{a:AV}{cargs:Array Value}(k:Ot h mu w [a] cargs.toList) : ∃ c,cargs = #[c]∧RV h mu w a c:=by
 obtain⟨l⟩:=cargs
 match l,k.1 with
 | [c],_=>exact⟨c,rfl,by simpa using k.2 0 (by simp)⟩
theorem Afj {h:Ag}{mu:Mu}{w:World}{a b:AV}{cargs:Array Value}(k:Ot h mu w [a,b] cargs.toList) : ∃ c d,cargs = #[c,d]∧RV h mu w a c∧RV h mu w b d:=by
 obtain⟨l⟩:=cargs
 match l,k.1 with
 | [c,d],_=>exact⟨c,d,rfl,by simpa using k.2 0 (by simp),by simpa using k.2 1 (by simp)⟩
theorem Abj {h:Ag}{mu:Mu}{w:World}{s:List UInt8}{c:Value}(k:RV h mu w (.str s) c):c=.string ⟨s.toArray⟩:=by cases k; rfl
theorem Aho {h:Ag}{mu:Mu}{w:World}{t:IntKind}{n:Int}{c:Value}(k:RV h mu w (.int t n) c):c=.int t n:=by cases k; rfl
theorem An9 {h:Ag}{mu:Mu}{w:World}{st:Nat}{c:Value}(k:RV h mu w (.sl st []) c) : ∃ a cap,c=.slice a 0 cap:=by
 cases k with
 | sl0 _ a cap=>exact⟨a,cap,rfl⟩
 | sl _ _ b off cap=>exact⟨_,cap,rfl⟩
theorem Am4 {h:Ag}{mu:Mu}{w:World}{l:List Au}{c:Value}(k:RV h mu w (.sl 1 (l.map rS)) c):l=[] ∨ ∃ bk o cap,c=.slice (some ⟨bk,o,none⟩) l.length cap∧bk<w.heap.size∧l.length≤D2∧l.length≤cap ∧ ∀ j x,l[j]? = some x→w.cell? ⟨bk,o+j,none⟩=some (.string ⟨x.toArray⟩):=by
 generalize hr:l.map rS=rows at k
 cases k with
 | sl0 _ a cap=>exact .inl (List.map_eq_nil_iff.1 hr)
 | sl _ _ b off cap vs hcap hlim h1 h2 h5 h3 h4=>
  subst hr
  refine .inr ⟨b,off,cap,by rw [List.length_map],h4,by simpa using hlim,by simpa using hcap,fun j x hx=>?_⟩
  have hj:j<l.length:=Bc hx
  have:=h1 j 0 (by simpa using hj) (by omega)
  have h2':=h2 j 0 (by simpa using hj) (by omega)
  rw [Nat.mul_one,Nat.add_zero] at this
  rw [this]
  have e:cell (l.map rS) j 0=.str x:=by simp [cell,hx,rS]
  rw [e] at h2'
  rw [Abj h2']
end
end Go.Am
namespace Go.Am
open Go
set_option linter.unusedSimpArgs false
set_option linter.unusedVariables false
set_option linter.unusedSectionVars false
inductive HM (h h2:Ag):List (Option AO)→List (Option AO)→Prop
 | nil:HM h h2 [] []
 | keep {x:Option AO} {xs ys:List (Option AO)} (r:HM h h2 xs ys):HM h h2 (x::xs) (x::ys)
 | drop {x:Option AO} {xs ys:List (Option AO)} (r:HM h h2 xs ys):HM h h2 (x::xs) (none::ys)
 | own {α:Type} {e:α→List AV} {L:List α} {v:AV} {g st i:Nat} {y:α} {row:List AV} {xs ys:List (Option AO)} (hr : ∀ x,Es st (e x)) (hz:LF h h2 row (e y)) (r:HM h h2 xs ys) :
   HM h h2 (Ai v g st ((L.map e).set i row)::xs) (Ai v g st ((L.set i y).map e)::ys)
theorem HM.get {h h2:Ag}{xs ys:List (Option AO)}(k:HM h h2 xs ys):xs.length=ys.length ∧ ∀ (j:Nat) (y:AO),ys[j]? = some (some y) → ∃ x,xs[j]? = some (some x)∧AFz h h2 x y:=by
 induction k with
 | nil=>exact⟨rfl,fun j y e=>by simp at e⟩
 | keep r ih=>
  refine⟨by simp [ih.1],fun j y e=>?_⟩
  cases j with
  | zero=>simp only [List.getElem?_cons_zero,Option.some.injEq] at e; subst e; exact⟨y,by simp,.same _⟩
  | succ j=>simpa using ih.2 j y (by simpa using e)
 | drop r ih=>
  refine⟨by simp [ih.1],fun j y e=>?_⟩
  cases j with
  | zero=>simp at e
  | succ j=>simpa using ih.2 j y (by simpa using e)
 | @own α e L v g st i y row xs ys hr hz r ih=>
  refine⟨by simp [ih.1],fun j z hz'=>?_⟩
  cases j with
  | succ j=>simpa using ih.2 j z (by simpa using hz')
  | zero=>
   simp only [List.getElem?_cons_zero,Option.some.injEq] at hz' ⊢
   have key:AFz h h2 (.rows g st ((L.map e).set i row)) (.rows g st ((L.set i y).map e)):=by
    refine .rows g st _ _ (by simp) (fun q hq=>?_) fun a b ha hb=>?_
    ·obtain⟨w,_,rfl⟩:=List.mem_map.1 hq
     exact hr w
    ·rw [List.map_set]
     by_cases hia:i=a
     ·subst hia
      have hlt:i<(L.map e).length:=by simpa using ha
      simp only [cell]
      have e1:((L.map e).set i row).getD i []=row:=by rw [List.getD_eq_getElem?_getD,List.getElem?_set_self hlt]; rfl
      have e2:((L.map e).set i (e y)).getD i []=e y:=by rw [List.getD_eq_getElem?_getD,List.getElem?_set_self hlt]; rfl
      rw [e1,e2]
      exact hz.all.2 b (by rw [hz.all.1,(hr y).1]; exact hb)
     ·simp only [cell]
      have e1:((L.map e).set i row).getD a []=(L.map e).getD a []:=by simp [List.getD,List.getElem?_set_ne hia]
      have e2:((L.map e).set i (e y)).getD a []=(L.map e).getD a []:=by simp [List.getD,List.getElem?_set_ne hia]
      rw [e1,e2]
      exact .same _
   unfold Ai at hz' ⊢
   split at hz'
   ·cases hz'
   ·rename_i hv
    cases hz'
    exact⟨_,rfl,key⟩
theorem HM.hfz {h0:Ag}{ids:List Nat}{N:Nat}{xs ys:List (Option AO)}(hI:Ids h0 ids N)(hl:xs.length=N)(k:HM (hp h0 ids xs) (hp h0 ids ys) xs ys):HFz (hp h0 ids xs) (hp h0 ids ys):=by
 intro o y e
 obtain⟨k1,k2⟩:=k.get
 by_cases ho:o ∈ ids
 ·obtain⟨j,hj,rfl⟩:=List.mem_iff_getElem.1 ho
  have ej:ids[j]=ix ids j:=by simp [ix,List.getD,hj]
  rw [ej] at e ⊢
  have hjl:j<ys.length:=by rw [← k1,hl,← hI.len]; exact hj
  have hy:=hI.at (xs:=ys) (j:=j) (x:=ys[j]) (by rw [← k1,hl]) (List.getElem?_eq_getElem hjl)
  rw [hy] at e
  obtain⟨x,hx,hz⟩:=k2 j y (by rw [List.getElem?_eq_getElem hjl,e])
  exact⟨x,hI.at hl hx,hz⟩
 ·rw [Rq ho] at e
  exact⟨y,by rw [Rq ho]; exact e,.same _⟩
end Go.Am
namespace Go.Am
open Go
set_option linter.unusedSimpArgs false
set_option linter.unusedVariables false
set_option linter.unusedSectionVars false
section
variable {α:Type} {n:Nat} {e:α→List AV} {E:α→AV} {v:Vector α n} {i:Nat}
theorem Es.all {s:Nat}{r:List AV}(h:Es s r):r.all AV.flat=true:=List.all_eq_true.2 h.2
end
section
variable {P:Program} [GW P] {h:Ag} {t et:TypeId} {a b:Nat} {z:List AV} {E:TI} {k:IntKind}
theorem toNat_lt {i:Int}{m:Nat}(h:0≤i∧i<(m:Int)):i.toNat<m:=by omega
end
theorem Wk {h h2:Ag} : ∀ l:List AV,LF h h2 l l
 | []=>.nil
 | a::l=>.cons (.same a) (Wk l)
def R.np {α:Type}:R α→R α
 | .pan _=>.bad
 | m=>m
@[simp] theorem R.np_ok {α:Type}(a:α):(R.ok a).np=.ok a:=rfl
end Go.Am
namespace Go.Am
open Go
set_option linter.unusedSimpArgs false
set_option linter.unusedVariables false
set_option linter.unusedSectionVars false
end Go.Am
namespace Go.Am
open Go
set_option linter.unusedSimpArgs false
set_option linter.unusedVariables false
set_option linter.unusedSectionVars false
section
variable {P:Program} [GW P] {f:FuncId} {n:Nat} {d:FK} {fr:Nat→AV} {ds:List AD} {h:Ag} {u:AU} {Q:QT} {k:List Item}
theorem Sim.take {B:Base P}{mu:Mu}{w:World}{b:Nat}{x:Option (List Deferred)}(s:Sim B mu h w)(hb:w.heap[b]? = some (.deferred x))(hm:¬ Ed h mu b)(hn:B.n≤b){n0:Nat}(hn0:n0≤b) :
  Sim B mu h { w with heap:=w.heap.setIfInBounds b (.deferred none) }∧Abu n0 h mu w h mu { w with heap:=w.heap.setIfInBounds b (.deferred none) }:=by
 have hlt:b<w.heap.size:=by
  rcases Nat.lt_or_ge b w.heap.size with hh | hh
  ·exact hh
  ·rw [Array.getElem?_eq_none hh] at hb; cases hb
 have hne : ∀ k,k≠b→(w.heap.setIfInBounds b (.deferred none))[k]? = w.heap[k]? := fun k hk=>Array.getElem?_setIfInBounds_ne (Ne.symm hk)
 have hself:(w.heap.setIfInBounds b (.deferred none))[b]? = some (.deferred none):=by simp [hlt]
 have ext:Abu n0 h mu w h mu { w with heap:=w.heap.setIfInBounds b (.deferred none) }:=
  ⟨rfl,rfl,rfl,by simp,fun k hk hkm=>⟨by
   by_cases hq:k=b
   ·subst hq; exact .inr ⟨hn0,_,_,hb,hself⟩
   ·exact .inl (hne k hq),hkm⟩,fun _ _ _ h=>h⟩
 have hcell : ∀ a:Addr,({ w with heap:=w.heap.setIfInBounds b (.deferred none) }:World).cell? a=w.cell? a:=fun a=>by
  by_cases hq:a.block=b
  ·unfold World.cell?
   show(match (w.heap.setIfInBounds b (.deferred none))[a.block]? with | some (.cells cells _ _)=>_ | _=>_)=_
   rw [hq,hself,hb]
  ·exact cell?_of_heap (hne _ hq)
 have hnb : ∀ {o x l},h o=some x→mu o x.gen=some l→l.b≠b:=fun h1 h2 hq=>hm ⟨_,_,_,h1,h2,hq⟩
 refine⟨⟨by simpa using s.base,fun o g l hl=>?_,s.fin,s.finh,fun o g st rs hx=>?_,fun o g es hx=>?_,s.inj,GW.step s.glob fun k hk=>hne k (by omega),fun o g x hx=>?_⟩,ext⟩
 ·obtain⟨h1,h2,h3⟩:=s.muOk o g l hl
  refine⟨h1,by simpa using h2,fun hc=>?_⟩
  obtain⟨cells,e,f,k1,k2,k3⟩:=h3 hc
  have:l.b≠b:=fun hq=>by rw [hq,hb] at k1; cases k1
  exact⟨cells,e,f,(hne _ this).trans k1,k2,k3⟩
 ·obtain⟨l,h1,h2,h3,h4,h5,h6⟩:=s.rows o g st rs hx
  refine⟨l,h1,h2,h3,h4,h5,fun i j hi hj=>?_⟩
  obtain⟨c,hc1,hc2⟩:=h6 i j hi hj
  exact⟨c,(hcell _).trans hc1,hc2.extG ext⟩
 ·obtain⟨l,h1,h2,ens,clock,h3,h4,h5⟩:=s.maps o g es hx
  exact⟨l,h1,h2,ens,clock,⟨(hne _ (hnb hx h1)).trans h3.1,h3.2⟩,h4,fun i hi=>⟨(h5 i hi).1.extG ext,(h5 i hi).2.extG ext⟩⟩
 ·obtain⟨l,h1,h2,h3⟩:=s.blks o g x hx
  exact⟨l,h1,h2,(hne _ (hnb hx h1)).trans h3⟩
theorem Ot.extG {n:Nat}{h h':Ag}{mu mu':Mu}{w w':World}(e:Abu n h mu w h' mu' w'){l:List AV}{cs:List Value}(k:Ot h mu w l cs):Ot h' mu' w' l cs:=⟨k.1,fun i hi=>(k.2 i hi).extG e⟩
theorem Qp.extG {n:Nat}{h h':Ag}{mu mu':Mu}{w w':World}(e:Abu n h mu w h' mu' w'){u:AU}{m:FrameMode}(k:Qp h mu w u m):Qp h' mu' w' u m:=by
 unfold Qp at k ⊢
 split at k
 ·trivial
 ·exact⟨k.1,k.2.1,k.2.2.extG e⟩
 ·exact k.elim
structure LpOk (f n:Nat)(params:Array Tmp)(assign body:Code)(r:Loop):Prop where
 ready:r.state=.ready
 pend:r.pending=none
 fn:r.fn=f
 size:r.tmps.size=n
 params:r.params=params
 assign:r.assign=assign
 body:r.body=body
end
end Go.Am
namespace Go.Am
open Go
set_option linter.unusedSimpArgs false
set_option linter.unusedVariables false
set_option linter.unusedSectionVars false
end Go.Am
namespace Go.Am
@[reducible] def Zz {α β γ δ ε ζ η θ ι ω:Type}(f:α→β→γ→δ→ε→ζ→η→θ→ι→ω):α×β×γ×δ×ε×ζ×η×θ×ι→ω | (x0,x1,x2,x3,x4,x5,x6,x7,x8)=>f x0 x1 x2 x3 x4 x5 x6 x7 x8
@[simp] theorem Ap7 {α β γ δ ε ζ η θ ι ω:Type}(f:α→β→γ→δ→ε→ζ→η→θ→ι→ω)(x0:α)(x1:β)(x2:γ)(x3:δ)(x4:ε)(x5:ζ)(x6:η)(x7:θ)(x8:ι):Zz f (x0,x1,x2,x3,x4,x5,x6,x7,x8)=f x0 x1 x2 x3 x4 x5 x6 x7 x8:=rfl
end Go.Am
namespace Go.Am
open Go
set_option linter.unusedVariables false
set_option linter.unusedSectionVars false
theorem Ao4 {P:Program}[GW P]{f:FuncId}{n:Nat}{d:FK}{α β γ:Type}{Q:Spec β}{k:List Item}{all ops:List Oper}{fr:Nat→AV}{ds:List AD}{h:Ag}{u:AU}{F:γ→R β}{m:R α}{rest:α→R γ}
  (hk:(∀ v,m≠.pan v)→WO P f n d Q k all ((m.bind rest).bind F) ops fr ds h u):WO P f n d Q k all ((m.np.bind rest).bind F) ops fr ds h u:=by
 cases m with
 | ok a=>exact hk (fun v hv=>by cases hv)
 | pan v=>exact fun hb=>absurd hb Q.bad
 | bad=>exact fun hb=>absurd hb Q.bad
end Go.Am
namespace Go.Am
open Go
set_option linter.unusedVariables false
set_option linter.unusedSectionVars false
theorem Amb {P:Program}{W:World}{name:String}{k:IntKind}{zs:List Int}{g:Nat}{t e:TypeId}{n:Nat}(hg:P.globalNamed name=some g)(hty:(P.globals[g]?).map (·.type)=some t)(ht:P.underlying t=some (.array n e))(he:P.underlying e=some (.int k))(hce:P.cellsOf e=1)(hct:P.cellsOf t=n)
  (h:Lib.VarReads P W name (Lib.tabData k zs)):Lib.TabIs P W name k zs:=by
 obtain⟨g',t',cs,fuel,p,hg',ht',hvar,hd⟩:=h
 obtain rfl:=Option.some.inj (hg.symm.trans hg')
 obtain rfl:=Option.some.inj (hty.symm.trans ht')
 unfold Lib.TabIs
 rw [hvar,← Lib.cells_of_tab ht he hce hct hd]
theorem Aci {P:Program}{W:World}{name u:String}{d:DataW Unit}{g:Nat}{t:TypeId}{ms:Array _}(hg:P.globalNamed name=some g)(hty:(P.globals[g]?).map (·.type)=some t)(ht:P.underlying t=some (.interface ms))
  (h:Lib.VarReads P W name (.iface u d)) : ∃ tp p,W.var? P name=some #[.iface tp p]:=by
 obtain⟨g',t',cs,fuel,p,hg',ht',hvar,hd⟩:=h
 obtain rfl:=Option.some.inj (hg.symm.trans hg')
 obtain rfl:=Option.some.inj (hty.symm.trans ht')
 cases fuel with
 | zero=>simp [DataW.trod] at hd
 | succ fuel=>
  obtain⟨cs⟩:=cs
  cases cs with
  | nil=>simp [DataW.trod,ht] at hd
  | cons v rest=>
   cases rest with
   | cons a b=>simp [DataW.trod,ht] at hd
   | nil=>
    cases v with
    | iface tp q=>exact⟨tp,q,hvar⟩
    | _=>simp [DataW.trod,ht] at hd
theorem Anu {P:Program}{W:World}{name:String}{g:Nat}{d:DataW Unit}(hg:P.globalNamed name=some g)(h:Lib.VarReads P W name d):g<W.heap.size:=by
 obtain⟨g',t',cs,fuel,p,hg',ht',hvar,hd⟩:=h
 obtain rfl:=Option.some.inj (hg.symm.trans hg')
 unfold World.var? at hvar
 rw [hg] at hvar
 rcases Nat.lt_or_ge g W.heap.size with h | h
 ·exact h
 ·simp [Array.getElem?_eq_none h] at hvar
theorem Yy {H:Type}{enc:TypeId×Value→H}{C:Checked}{os:Os}{f:FuncId}{fn:Func}{s:OpenSpec}{conds:List PathCond}{apart:Bool}{laid:List (String×DataW Unit)}(modest:Bool)(w0:World)(args:Array Value)(hos:w0.os=os)
  (hsh:(w0.forCall (fun _ _=>0) ⟨#[],args,[]⟩).Shaped C.prog)
  (hok:Input.okWideB C.prog (w0.forCall (fun _ _=>0) ⟨#[],args,[]⟩) f ⟨#[],args,[]⟩=true)
  (hrow:s.preRow enc C.prog fn conds apart laid (w0.forCall (fun _ _=>0) ⟨#[],args,[]⟩).memory args) :
  ∃ (w:World) (tape:Tape) (i:Input),w.os=os∧(w.forCall tape i).Shaped C.prog∧i.vars=[]∧Input.okWide C.prog (w.forCall tape i) .any w.heap.size f i ∧
   s.preRow enc C.prog fn conds apart laid (w.forCall tape i).memory i.args∧({ modest:=modest }:Assume).holds C.prog (lone (Frame.enter C.prog f i.args .normal) [] (w.forCall tape i)):=
 ⟨w0,fun _ _=>0,⟨#[],args,[]⟩,hos,hsh,(Input.okWide_of_okWideB (base:=0) hok).1,(Input.okWide_of_okWideB hok).2,hrow,by
  simp only [Assume.holds]
  exact⟨by simp,by simp,fun _=>Modest.zero,by simp,by simp⟩⟩
end Go.Am
namespace Go.Am
open Go
set_option linter.unusedVariables false
set_option linter.unusedSectionVars false
section
variable {P:Program} [GW P] {h:Ag}
theorem Ao2 {t:TypeId}{T:TI}{b c:Nat}{row:List AV}{v:AV}(hr:GW.row P b=some row)(hT:ti P t=some T)(hv:Kg row c T.size T.k.agg=some v):N7 P h t (.gptr ⟨b,c,none⟩)=some v:=by simp only [N7,hT,hr,hv]
theorem Om {t kt et:TypeId}{a b:Nat}{z:List AV}{K:TI}{ET:TI}{es:List (Au×AV)}{s c:Au}{q:Au×AV}(hT:ti P t=some ⟨.map kt et,a,b,z⟩)(hK:ti P kt=some K)(hk:K.k=.str)(hE:ti P et=some ET)(hs:(s==c)=true)(hf:es.find? (fun p=>c==p.1)=some q) :
  P5 P h t (.mapc es) (.str s) true=some (.tup [q.2,.bool true]):=by
 obtain rfl:=eq_of_beq hs
 obtain⟨r,h1,h2⟩:=U9 (k:=s) es 0
 rw [hf] at h2
 obtain⟨j,v,rfl⟩ : ∃ j v,r=some (j,v):=by cases r with | none=>simp at h2 | some q=>exact⟨q.1,q.2,rfl⟩
 obtain rfl:v=q.2:=by simpa using h2
 simp only [P5,hT,hK,hE,Y4,hk,V1,if_true,h1]
theorem Akk {t kt et:TypeId}{a b:Nat}{z:List AV}{K:TI}{ET:TI}{es:List (Au×AV)}{s:Au}{v:AV}(hT:ti P t=some ⟨.map kt et,a,b,z⟩)(hK:ti P kt=some K)(hk:K.k=.str)(hE:ti P et=some ET)(hz:Kg ET.z 0 ET.size ET.k.agg=some v)(hf:es.find? (fun p=>s==p.1)=none) :
  P5 P h t (.mapc es) (.str s) true=some (.tup [v,.bool false]):=by
 obtain⟨r,h1,h2⟩:=U9 (k:=s) es 0
 rw [hf] at h2
 obtain rfl:r=none:=by simpa using h2
 simp only [P5,hT,hK,hE,Y4,hk,V1,if_true,h1,hz]
theorem Ru {es:List (Au×AV)}{s c:Au}{v:AV}(h:(s==c)=false)(r:es.find? (fun p=>s==p.1)=none):((c,v)::es).find? (fun p=>s==p.1)=none:=by rw [List.find?_cons]; simp only [h]; exact r
end
section
variable {P:Program} [GW P] {f:FuncId} {n:Nat} {γ:Type} {m:R γ} {u u':AU} {h0:Ag}
theorem Ah2 {fn : Func} {c : Code} {args : List AV} {os0 : List Nat} {K : Nat} {xs : List (Option AO)} {ysf : γ → List (Option AO)} (N : Nat) (hf : P.funcs[f]? = some fn) (hb : fn.body = some c) (hn : fn.name ≠ "runtime.NumGoroutine") (hnt : fn.ntmps = n) (hl : Nat.ble args.length n = true)
  (hI0 : Ids h0 os0 K) (hx : xs.length = K) (hy : ∀ a, (ysf a).length = K)
  (hr : ∀ ids, (∀ j, Nat.blt j K = true → ix ids j = ix os0 j) → Ids h0 ids (K + N) → WR P f n true (Agw (fun a => hp h0 ids (ysf a ++ List.replicate N none)) u') m [.code c] (A5 (Xd 0 args)) [] (hp h0 ids (xs ++ List.replicate N none)) u) :
  (∃ a, m = .ok a) → On P f args u (hp h0 os0 xs) (Y6 (fun a => hp h0 os0 (ysf a)) u' m) := by
 intro hm
 refine Z0 hf hb hn hnt (by simpa using hl) ?_
 refine Zo N os0 fun os h1 h2 h3 h4 => ?_
 have hout : ∀ o ∈ os, o ∉ os0 := fun o ho => h4 o ho
 have hI : Ids h0 (os0 ++ os) (K + N) := by
  refine ⟨List.nodup_append.2 ⟨hI0.nodup, h2, fun a ha b hb hq => hout b hb (hq ▸ ha)⟩, fun o ho => ?_, by simp [hI0.len, h1]⟩
  rcases List.mem_append.1 ho with ho | ho
  ·exact hI0.fresh o ho
  ·have := h3 o ho
   rwa [Rq (hout o ho)] at this
 have e : ∀ zs : List (Option AO), zs.length = K → hp h0 (os0 ++ os) (zs ++ List.replicate N none) = hp h0 os0 zs := fun zs hz => by
  rw [Vx (by rw [hI0.len, hz]), Sf fun o ho => hI.fresh o (List.mem_append_right _ ho)]
 have := hr (os0 ++ os) (fun j hj => by
  have hj' : j < os0.length := by rw [hI0.len]; simpa using hj
  simp [ix, List.getD, List.getElem?_append_left hj']) hI hm
 rw [e xs hx] at this
 refine Rx (fun t => ?_) (Akw this ?_)
 ·rcases R7 args 0 t with h | ⟨_, h⟩
  ·exact .inl h
  ·exact .inr h
 ·rintro r h' u1 ⟨a, h1, h2, h3, h4⟩
  exact ⟨a, h1, h2, h3.trans (e _ (hy a)), h4⟩
end
def Jv (l:List (Au×Au×FuncId)):List (Au×AV):=l.map fun x=>(x.1,.func (.func x.2.2) [] [])
def Yb (l:List (Au×Au×FuncId)):DataW (List UInt8):=.map (l.map fun x=>(.string x.1,.held x.2.1))
def Aop (P:Program)(l:List (Au×Au×FuncId)):Bool:=l.all fun x => !x.2.1.isEmpty&&((List.range P.funcs.size).filter fun f=>(P.funcs[f]?).any (·.name.toUTF8.data.toList==x.2.1))==[x.2.2]
structure FMapAt (w:World)(m g:Nat)(es:List (Au×AV)):Prop where
 ex : ∃ (b:Nat) (ens:Array MapEntry) (clock:Nat) (es2:List (Au×AV)),w.cell? ⟨g,0,none⟩=some (.map (some b))∧b<m∧w.heap[b]? = some (.map ens clock)∧es2.Perm es∧es2.length=ens.size ∧
  ∀ i,i<es2.length→(ens.getD i default).key=.string ⟨(es2.getD i ([],.und)).1.toArray⟩ ∧ ∃ k,(es2.getD i ([],.und)).2=.func (.func k) [] []∧(ens.getD i default).val=.func (.func k) #[] #[]
 nd:(es.map (·.1)).Nodup
theorem FMapAt.keep {w w':World}{m g:Nat}{es:List (Au×AV)}(k:FMapAt w m g es)(hg:g<m)(e : ∀ b,b<m→w'.heap[b]? = w.heap[b]?):FMapAt w' m g es:=by
 obtain⟨⟨b,ens,clock,es2,h1,h2,h3,h4,h5,h6⟩,hnd⟩:=k
 exact⟨⟨b,ens,clock,es2,by rw [cell?_of_heap (w:=w) (a:=⟨g,0,none⟩) (e g hg)]; exact h1,h2,by rw [e b h2]; exact h3,h4,h5,h6⟩,hnd⟩
theorem FMapAt.rv {w:World}{m g:Nat}{es:List (Au×AV)}(k:FMapAt w m g es)(hm:m≤w.heap.size){mu:Mu}{M:Nat→Prop}(hM : ∀ b,M b→m≤b) : ∃ x,w.cell? ⟨g,0,none⟩=some x∧Rv w mu M (.mapc es) x:=by
 obtain⟨⟨b,ens,clock,es2,h1,h2,h3,h4,h5,h6⟩,hnd⟩:=k
 refine⟨_,h1,.mapc es es2 h4 hnd b ens clock h3 h5 (fun i hi=>(h6 i hi).1) (fun i hi=>?_) (fun hb=>by have:=hM b hb; omega) (by omega)⟩
 obtain⟨_,k,e1,e2⟩:=h6 i hi
 rw [e1,e2]
 exact .func _ [] [] [] [] rfl rfl (fun i hi=>by simp at hi) (fun i hi=>by simp at hi)
open Go.ChangeShapes Go.WideShapes Go.WideElems
theorem Ai1 {P:Program}{e:TypeId}{ps rs:Array TypeId}{va:Bool}{v c:Value}(he:P.underlying e=some (.func ps rs va))(hf:v.formed P e=true)(hc:v.cells.toList=[c]):v=c:=by
 cases v with
 | agg a=>simp [Value.formed,he] at hf
 | _=>simpa [Value.cells] using hc
theorem Al0 {P:Program}{W:World}{name:String}{d:DataW Unit}{l:List (Au×Au×FuncId)}{g:Nat}{t k e:TypeId}{ps rs:Array TypeId}{va:Bool}(h:funcsAt P W name d)(hd:d.funcsOut=Yb l)(hg:P.globalNamed name=some g)(hty:(P.globals[g]?).map (·.type)=some t)
  (ht:P.underlying t=some (.map k e)) (hk:P.underlying k=some .string) (he:P.underlying e=some (.func ps rs va)) (hok:Aop P l=true) (hnd:((Jv l).map (·.1)).Nodup):FMapAt W W.heap.size g (Jv l):=by
 obtain⟨g',t',cs,fuel,p,hg',ht',hvar,hr⟩:=h
 obtain rfl:=Option.some.inj (hg.symm.trans hg')
 obtain rfl:=Option.some.inj (hty.symm.trans ht')
 rw [hd] at hr
 rcases open_map ht hr with⟨_,hx⟩ | ⟨b,ens,clock,n,rfl,hcs,hb,_,F,hx⟩
 ·simp [Yb] at hx
 ·refine⟨?_,hnd⟩
  have hmap:Yb l=.map ((ens.toList.map (rg P k (elemAt (funcToken P) P W 0 (fun _=>true) true n e))).foldr DataW.insert []):=congrArg Prod.fst hx
  have hperm:(ens.toList.map (rg P k (elemAt (funcToken P) P W 0 (fun _=>true) true n e))).Perm (l.map fun x=>(Lit.string x.1,DataW.held x.2.1)):=by
   have h1:=sorted_perm (ens.toList.map (rg P k (elemAt (funcToken P) P W 0 (fun _=>true) true n e)))
   unfold Yb at hmap
   rw [← DataW.map.inj hmap] at h1
   exact h1.symm
  have hent : ∀ x ∈ ens.toList,∃ y ∈ l,x.key=.string ⟨y.1.toArray⟩∧x.val=.func (.func y.2.2) #[] #[]∧rg P k (elemAt (funcToken P) P W 0 (fun _=>true) true n e) x=(Lit.string y.1,DataW.held y.2.1):=by
   intro x hx
   have hm:=hperm.mem_iff.1 (List.mem_map.2 ⟨x,hx,rfl⟩)
   obtain⟨y,hy,hyx⟩:=List.mem_map.1 hm
   obtain⟨z,hz⟩:=F.reads x hx
   rw [rg_of hz] at hyx
   subst hyx
   refine⟨y,hy,?_,?_,by rw [rg_of hz]⟩
   ·have h1:=rd_key hz
    rw [keyOf_string hk] at h1
    unfold mapKey at h1
    rw [hk] at h1
    generalize x.key=kv at h1
    cases kv <;> simp at h1
    rename_i s
    obtain⟨_,h1⟩:=h1
    obtain⟨⟨sl⟩⟩:=s
    simp at h1
    rw [← h1]
   ·obtain⟨v,hv,hv2⟩:=rd_val hz
    have hyok:=List.all_eq_true.1 hok y hy
    simp only [Bool.and_eq_true,beq_iff_eq,Bool.not_eq_true'] at hyok
    obtain⟨v1,v2⟩:=v
    simp only at hv2
    unfold elemAt at hv
    split at hv
    ·cases fuel':n with
     | zero=>rw [fuel'] at hv; simp [DataW.trod] at hv
     | succ n'=>
      have hcells : ∃ v0,x.val.cells.toList=[v0]:=by
       have:=hv
       rw [fuel',DataW.trod_step] at this
       unfold DataW.trodStep at this
       rw [he] at this
       generalize x.val.cells.toList=cl at this
       match cl,this with
       | [v0],_=>exact⟨v0,rfl⟩
       | [],h=>simp at h
       | _::_::_,h=>simp at h
      obtain⟨v0,hv0⟩:=hcells
      rw [hv0] at hv
      obtain⟨y1,y2,y3⟩:=y
      simp only at hv2 hyok hv
      cases y2 with
      | nil=>simp at hyok
      | cons b0 r0=>
       rw [← hv2] at hv
       have hf:=func_of_trod he hyok.2 hv
       subst hf
       refine Ai1 he ?_ hv0
       assumption
    ·cases hv
  let θ:Lit×DataW (List UInt8)→Au×AV:=fun p=>match p with
   | (.string s,.held nm)=>(s,match l.find? (fun y=>y.2.1==nm) with
    | some y=>.func (.func y.2.2) [] []
    | none=>.und)
   | _=>([],.und)
  have hθ : ∀ y ∈ l,θ (Lit.string y.1,DataW.held y.2.1)=(y.1,.func (.func y.2.2) [] []):=by
   intro y hy
   show(y.1,_)=_
   cases hq:l.find? (fun z=>z.2.1==y.2.1) with
   | none=>
    rw [List.find?_eq_none] at hq
    exact absurd (by simp) (hq y hy)
   | some z=>
    have hz1:=List.mem_of_find?_eq_some hq
    have hz2:z.2.1=y.2.1:=by simpa using List.find?_some hq
    have k1:=List.all_eq_true.1 hok y hy
    have k2:=List.all_eq_true.1 hok z hz1
    simp only [Bool.and_eq_true,beq_iff_eq] at k1 k2
    rw [hz2,k1.2] at k2
    have:y.2.2=z.2.2:=by simpa using k2.2
    simp only [this]
  refine⟨b,ens,clock,ens.toList.map fun x=>θ (rg P k (elemAt (funcToken P) P W 0 (fun _=>true) true n e) x),?_,?_,hb,?_,by simp,fun i hi=>?_⟩
  ·have:=World.var?_cell hg hvar 0
   rw [Array.eq_one_of_toList hcs] at this
   simpa using this
  ·rcases Nat.lt_or_ge b W.heap.size with h | h
   ·exact h
   ·simp [Array.getElem?_eq_none h] at hb
  ·have:=hperm.map θ
   rw [List.map_map,List.map_map] at this
   refine this.trans (List.Perm.of_eq (List.map_congr_left fun y hy=>hθ y hy))
  ·have hi':i<ens.toList.length:=by simpa using hi
   have hm:ens.toList[i] ∈ ens.toList:=List.getElem_mem hi'
   obtain⟨y,hy,e1,e2,e3⟩:=hent _ hm
   have g1:ens.getD i default=ens.toList[i]:=by
    rw [← Sv,Fd (List.getElem?_eq_getElem hi')]
   have g2:(ens.toList.map fun x=>θ (rg P k (elemAt (funcToken P) P W 0 (fun _=>true) true n e) x)).getD i ([],.und)=(y.1,.func (.func y.2.2) [] []):=by
    rw [Fd (x:=θ (rg P k (elemAt (funcToken P) P W 0 (fun _=>true) true n e) ens.toList[i])) (by rw [List.getElem?_map,List.getElem?_eq_getElem hi',Option.map_some]),e3,hθ y hy]
   rw [g1,g2]
   exact⟨e1,_,rfl,e2⟩
end Go.Am
namespace Go.Am
open Go
set_option linter.unusedVariables false
set_option linter.unusedSectionVars false
set_option linter.unusedSimpArgs false
abbrev AV.q (ids:List Nat)(j g:Nat):AV:=.ptr (ix ids j) g 0 0
abbrev AV.I (n:Int):AV:=.int .i64 n
abbrev Sc.I (n:Int):Sc:=.int .i64 n
section
variable (P:Program) [GW P]
def Ags:Op→Bool
 | .move _=>true
 | .assign _=>true
 | .pick _ _ _=>true
 | .build _ _=>true
 | .nilCheck _=>true
 | .binOp _ _ _ _ _=>true
 | .unOp _ _ _=>true
 | .makeInterface _ _=>true
 | .makeFunc _ _ _=>true
 | .fieldAddr _ _ _=>true
 | .field _ _ _=>true
 | .typeAssert _ _ _ _=>true
 | .extract _ _=>true
 | _=>false
def Ajk (xs:List (Option AO))(fr:Nat→AV)(j:Nat)(op:Op):Option (AV×Option (Nat×Nat×Nat)):=
 match op with
 | .load t a=>match ev fr a with
  | .ptr o g r c=>match ti P t,xs[j]? with
   | some T,some (some (.rows g' st rs))=>match rs[r]? with
    | some row=>(Kg row c T.size T.k.agg).map fun v=>(v,some (o,g,g'))
    | none=>none
   | _,_=>none
  | .cp row c=>match ti P t with
   | some T=>(Kg row c T.size T.k.agg).map fun v=>(v,none)
   | none=>none
  | _=>none
 | op=>if Ags op then(Ev P fr hE op).map fun v=>(v,none) else none
def Ox (n:Nat)(all:List Oper)(xs:List (Option AO)):List Oper→List Nat→List (Nat×AV)→Option (List (Nat×AV)×List (Nat×Nat)×List (Nat×Nat))
 | [],_,l=>some (l,[],[])
 | o::ops,hs,l=>if Hx n o.dst then match Fw all (A5 l) o,o.dst with
   | some true,some t=>match Ajk P xs (A5 l) (hs.headD 0) o.op with
    | some (v,none)=>Ox n all xs ops hs ((t,v)::l)
    | some (v,some (ob,g,g'))=>(Ox n all xs ops hs.tail ((t,v)::l)).map fun r=>(r.1,(ob,g)::r.2.1,(hs.headD 0,g')::r.2.2)
    | none=>none
   | some false,some t=>Ox n all xs ops hs ((t,.und)::l)
   | some false,none=>Ox n all xs ops hs l
   | _,_=>none
  else none
def Afs (ops:List Oper)(ks:List Nat)(l:List (Nat×AV)):Bool:=ops.all fun o=>match o.dst with
 | none=>true
 | some t=>ks.contains t || !(l.any fun p=>Nat.beq t p.1)
end
section
variable {P:Program} [GW P] {f:FuncId} {n:Nat} {d:FK} {β γ:Type} {Q:Spec β} {m:R β} {ds:List AD} {h:Ag} {u:AU} {k:List Item} {l:List (Nat×AV)} {F:γ→R β}
variable {all:List Oper} {h0:Ag} {ids:List Nat} {xs:List (Option AO)} {N:Nat}
theorem Aam {fr:Nat→AV}{j:Nat}{op:Op}{v:AV}{q:Option (Nat×Nat×Nat)}(hI:Ids h0 ids N)(hl:xs.length=N)(hx:Ajk P xs fr j op=some (v,q))(hq : ∀ o g g',q=some (o,g,g')→o=ix ids j∧g=g'):Ev P fr (hp h0 ids xs) op=some v:=by
 unfold Ajk at hx
 split at hx
 ·rename_i t a
  show N7 P _ t (ev fr a)=_
  split at hx
  ·rename_i o g r c ha
   rw [ha]
   split at hx
   ·rename_i T g' st rs hT hj
    split at hx
    ·rename_i row hr
     simp only [Option.map_eq_some_iff,Prod.mk.injEq] at hx
     obtain⟨v',h1,rfl,rfl⟩:=hx
     obtain⟨rfl,rfl⟩:=hq _ _ _ rfl
     exact Az hI hl hj hr hT h1
    ·cases hx
   ·cases hx
  ·rename_i row c ha
   rw [ha]
   split at hx
   ·rename_i T hT
    simp only [Option.map_eq_some_iff,Prod.mk.injEq] at hx
    obtain⟨v',h1,rfl,rfl⟩:=hx
    exact Cl hT h1
   ·cases hx
  ·cases hx
 split at hx
 ·rename_i hp
  simp only [Option.map_eq_some_iff,Prod.mk.injEq] at hx
  obtain⟨v',h1,rfl,rfl⟩:=hx
  revert h1
  cases op <;> first
   | exact id
   | (simp [Ags] at hp)
 ·cases hx
theorem Yo {rest:List Oper} : ∀ {ops:List Oper} {hs:List Nat} {l l':List (Nat×AV)} {A B:List (Nat×Nat)},Ox P n all xs ops hs l=some (l',A,B)→A=B.map (fun q=>(ix ids q.1,q.2))→Ids h0 ids N→xs.length=N →
  WO P f n d Q k all m rest (A5 l') ds (hp h0 ids xs) u→WO P f n d Q k all m (ops++rest) (A5 l) ds (hp h0 ids xs) u
 | [],hs,l,l',A,B,hx,hA,hI,hl,hk=>by
  simp only [Ox,Option.some.injEq,Prod.mk.injEq] at hx
  obtain⟨rfl,rfl,rfl⟩:=hx
  exact hk
 | o::ops,hs,l,l',A,B,hx,hA,hI,hl,hk=>by
  unfold Ox at hx
  split at hx
  ·rename_i hd
   split at hx
   ·rename_i t hw ht
    rw [ht] at hd
    have step : ∀ {v:AV},Ev P (A5 l) (hp h0 ids xs) o.op=some v→WO P f n d Q k all m (ops++rest) (A5 ((t,v)::l)) ds (hp h0 ids xs) u→WO P f n d Q k all m (o::ops++rest) (A5 l) ds (hp h0 ids xs) u:=by
     intro v hv hk'
     refine Pq (by rw [ht]; exact hd) hw fun hb K U hK hU=>Abt (t:=ds) hv (hK _ _ _ _ ?_)
     rw [ht,Iy]; exact hk'
    split at hx
    ·rename_i v hr
     exact step (Aam hI hl hr (fun _ _ _ h=>by cases h)) (Yo hx hA hI hl hk)
    ·rename_i v ob g g' hr
     simp only [Option.map_eq_some_iff,Prod.mk.injEq] at hx
     obtain⟨⟨l1,A1,B1⟩,hx,rfl,rfl,rfl⟩:=hx
     simp only [List.map_cons,List.cons.injEq,Prod.mk.injEq] at hA
     exact step (Aam hI hl hr (fun o2 g2 g2' h=>by cases h; exact hA.1)) (Yo hx hA.2 hI hl hk)
    ·cases hx
   ·rename_i t hw ht
    rw [ht] at hd
    exact Agk (by rw [ht]; exact hd) hw (by rw [ht,Iy]; exact Yo hx hA hI hl hk)
   ·rename_i hw ht
    exact Agk (by rw [ht]; rfl) hw (by rw [ht]; exact Yo hx hA hI hl hk)
   ·cases hx
  ·cases hx
theorem Wj {ops:List Oper}{ks:List Nat}{news:List (Nat×AV)} : ∀ {hs:List Nat} {l l':List (Nat×AV)} {A B:List (Nat×Nat)} {ops:List Oper},Ox P n all xs ops hs l=some (l',A,B) → ∀ t,(∀ o ∈ ops,o.dst≠some t)→A5 l' t=A5 l t
 | hs,l,l',A,B,[],hx,t,ho=>by
  simp only [Ox,Option.some.injEq,Prod.mk.injEq] at hx
  obtain⟨rfl,rfl,rfl⟩:=hx
  rfl
 | hs,l,l',A,B,o::ops,hx,t,ho=>by
  have ho' : ∀ o ∈ ops,o.dst≠some t:=fun q hq=>ho q (List.mem_cons_of_mem _ hq)
  have hne : ∀ {t':Nat} {v:AV},o.dst=some t'→A5 ((t',v)::l) t=A5 l t:=by
   intro t' v h
   have:t≠t':=fun e=>ho o (List.mem_cons_self ..) (e ▸ h)
   simp only [A5]
   have:Nat.beq t t'=false:=by
    cases hq:Nat.beq t t' with
    | false=>rfl
    | true=>exact absurd (Nat.eq_of_beq_eq_true hq) this
   rw [this]; rfl
  unfold Ox at hx
  split at hx
  ·split at hx
   ·rename_i t' hw ht
    split at hx
    ·rw [Wj (ks:=ks) (news:=news) (ops:=ops) hx t ho',hne ht]
    ·simp only [Option.map_eq_some_iff,Prod.mk.injEq] at hx
     obtain⟨⟨l1,A1,B1⟩,hx,rfl,rfl,rfl⟩:=hx
     rw [Wj (ks:=ks) (news:=news) (ops:=ops) hx t ho',hne ht]
    ·cases hx
   ·rename_i t' hw ht
    rw [Wj (ks:=ks) (news:=news) (ops:=ops) hx t ho',hne ht]
   ·exact Wj (ks:=ks) (news:=news) (ops:=ops) hx t ho'
   ·cases hx
  ·cases hx
theorem Apj {ops:List Oper}(K:Nat)(hs:List Nat)(news:List (Nat×AV))(hI:Ids h0 ids N)(hl:xs.length=N)
  (hc:(Ox P n all xs (ops.take K) hs l).map (fun r=>(news.map (fun p=>A5 r.1 p.1),r.2.1,Afs (ops.take K) (news.map (·.1)) l))=some (news.map (·.2),((Ox P n all xs (ops.take K) hs l).elim [] fun r=>r.2.2.map fun q=>(ix ids q.1,q.2)),true))
  (hk:WO P f n d Q k all m (ops.drop K) (A5 (news++l)) ds (hp h0 ids xs) u):WO P f n d Q k all m ops (A5 l) ds (hp h0 ids xs) u:=by
 cases hr:Ox P n all xs (ops.take K) hs l with
 | none=>rw [hr] at hc; cases hc
 | some r=>
  obtain⟨l',A,B⟩:=r
  rw [hr] at hc
  simp only [Option.map_some,Option.elim_some,Option.some.injEq,Prod.mk.injEq] at hc
  obtain⟨h1,h2,h3⟩:=hc
  have:=Yo (rest:=ops.drop K) hr h2 hI hl (f:=f) (d:=d) (Q:=Q) (k:=k) (m:=m) (ds:=ds) (u:=u) (fun hb i hi=>Rx (fun t=>?_) (hk hb i hi))
  ·rwa [List.take_append_drop] at this
  ·
   have key : ∀ (ns:List (Nat×AV)),ns.map (fun p=>A5 l' p.1)=ns.map (·.2)→(∀ s,s ∈ ns.map (·.1)→s ∈ news.map (·.1))→(∀ s,s ∈ news.map (·.1)→s=t→s ∈ ns.map (·.1))→A5 (ns++l) t=.any∨A5 (ns++l) t=A5 l' t:=by
    intro ns
    induction ns with
    | nil=>
     intro _ _ hsub
     simp only [List.nil_append]
     by_cases hin:l.any (fun p=>Nat.beq t p.1)=true
     ·right
      symm
      refine Wj (ks:=[]) (news:=[]) (ops:=ops.take K) hr t fun o ho hd=>?_
      have:=List.all_eq_true.1 h3 o ho
      rw [hd] at this
      simp only [Bool.or_eq_true,Bool.not_eq_true',List.contains_iff_mem] at this
      rcases this with hc | hc
      ·exact absurd (hsub t hc rfl) (by simp)
      ·rw [hc] at hin; cases hin
     ·left
      have : ∀ l:List (Nat×AV),l.any (fun p=>Nat.beq t p.1)≠true→A5 l t=.any:=by
       intro l
       induction l with
       | nil=>intro _; rfl
       | cons p l ih=>
        intro hne
        simp only [List.any_cons] at hne
        simp only [A5]
        have h1:Nat.beq t p.1=false:=by cases hq:Nat.beq t p.1 with | false=>rfl | true=>exact absurd (by rw [hq]; rfl) hne
        rw [h1]
        exact ih (fun h=>hne (by rw [h,h1]; rfl))
      exact this l hin
    | cons p ns ih=>
     intro hv h4 h5
     simp only [List.map_cons,List.cons.injEq] at hv
     simp only [List.cons_append,A5]
     cases hq:Nat.beq t p.1 with
     | true=>
      right
      have:t=p.1:=Nat.eq_of_beq_eq_true hq
      subst this
      exact hv.1.symm
     | false=>
      refine ih hv.2 (fun s hs=>h4 s (by simp [hs])) (fun s hs e=>?_)
      rcases List.mem_cons.1 (h5 s hs e) with h | h
      ·subst e; rw [h] at hq; simp at hq
      ·exact h
   exact key news h1 (fun s hs=>hs) (fun s hs _=>hs)
theorem Ab {ops:List Oper}(K:Nat)(hs:List Nat)(news:List (Nat×AV))(hk:WO P f n d Q k all m (ops.drop K) (A5 (news++l)) ds (hp h0 ids xs) u)(hI:Ids h0 ids N:=by assumption)(hl:xs.length=N:=by rfl)
  (hc:(Ox P n all xs (ops.take K) hs l).map (fun r=>(news.map (fun p=>A5 r.1 p.1),r.2.1,Afs (ops.take K) (news.map (·.1)) l))=some (news.map (·.2),((Ox P n all xs (ops.take K) hs l).elim [] fun r=>r.2.2.map fun q=>(ix ids q.1,q.2)),true):=by kernel_rfl):WO P f n d Q k all m ops (A5 l) ds (hp h0 ids xs) u:=Apj K hs news hI hl hc hk
theorem A0 {ops:List Oper}{t:Nat}{b b':Bool}(hb:b=b')(ht:A5 l t=.bool b)(hk:WO P f n d Q k all m ops (A5 ((t,.bool b')::l)) ds h u):WO P f n d Q k all m ops (A5 l) ds h u:=by
 subst hb
 refine fun hV i hi=>Rx (fun s=>?_) (hk hV i hi)
 right
 simp only [A5]
 cases hq:Nat.beq s t with
 | true=>rw [Nat.eq_of_beq_eq_true hq,ht]; rfl
 | false=>rfl
theorem Av {ops:List Oper}{fr:Nat→AV}(js:List Nat){zs ys:List (Option AO)}(hI:Ids h0 ids N)(hl:xs.length=N)(hk:Qy N js=true)(hz:js.length=zs.length)(hr:WO P f n d Q k all m ops fr ds (hp h0 ids ys) u)
  (e:Rn js zs xs=ys:=by first | (simp only [List.set_cons_zero,List.set_cons_succ,List.cons_append,List.nil_append,List.replicate_succ,List.replicate_zero,Rn,Vb,Uj,AV.cells,AV.I,AV.q]; rfl) | rfl):WO P f n d Q k all m ops fr ds (hp (hp h0 ids (R6 js xs)) (Wy ids js) zs) u:=Al6 js ys hI hl hk hz e hr
theorem Br {todo:List Item}{l':List (Nat×AV)}(hr:WR P f n d Q m todo (A5 l') ds h u)(hx:FrIs l l':=by repeat (first | exact .nil | refine .cons rfl ?_)):WR P f n d Q m todo (A5 l) ds h u:=Ea l' hx hr
theorem Ba {ops:List Oper}{l':List (Nat×AV)}(hr:WO P f n d Q k all m ops (A5 l') ds h u)(hx:FrIs l l':=by repeat (first | exact .nil | refine .cons rfl ?_)):WO P f n d Q k all m ops (A5 l) ds h u:=Ca l' hx hr
theorem Aj {todo:List Item}{fr:Nat→AV}{ys:List (Option AO)}(hr:WR P f n d Q m todo fr ds (hp h0 ids ys) u)(e:xs=ys:=by first | (simp only [List.set_cons_zero,List.set_cons_succ,List.cons_append,List.nil_append,List.replicate_succ,List.replicate_zero,Rn,Vb,Uj,AV.cells,AV.I,AV.q]; rfl) | rfl) :
  WR P f n d Q m todo fr ds (hp h0 ids xs) u:=e ▸ hr
end
theorem J {α:Sort _}{a:α}:a=a:=rfl
theorem FI {l l':List (Nat×AV)}(h:l'.map (fun p=>A5 l p.1)=l'.map (·.2)):FrIs l l':=by
 induction l' with
 | nil=>exact .nil
 | cons p r ih=>
  rw [List.map_cons,List.map_cons] at h
  injection h with h1 h2
  exact .cons h1 (ih h2)
end Go.Am
namespace Go.Am
open Go
set_option maxRecDepth 100000
set_option maxHeartbeats 4000000
set_option linter.unusedSimpArgs false
set_option linter.unusedVariables false
structure Span where
 From:Int
 To:Int
 deriving DecidableEq
def B5 (x:Span):List AV:=[(.int .i64 x.From),(.int .i64 x.To)]
theorem Agf (x:Span):Es 2 (B5 x):=Ll rfl rfl
structure Volume where
 Name:Au
 Closed:(List Span)
 deriving DecidableEq
def As (x:Volume):List AV:=[(.str x.Name),(.sl 2 (List.map B5 x.Closed))]
theorem Ta (x:Volume):Es 2 (As x):=Ll rfl rfl
structure Sector where
 Name:Au
 Names:(List Au)
 Volumes:(List Int)
 Radar:Int
 Procedural:Int
 deriving DecidableEq
def A6 (x:Sector):List AV:=[(.str x.Name),(.sl 1 (List.map rS x.Names)),(.sl 1 (List.map (rI .i64) x.Volumes)),(.int .i64 x.Radar),(.int .i64 x.Procedural)]
theorem Q1 (x:Sector):Es 5 (A6 x):=Ll rfl rfl
structure Config where
 Name:Au
 Names:(List Au)
 Sectors:(List Int)
 deriving DecidableEq
def Bk (x:Config):List AV:=[(.str x.Name),(.sl 1 (List.map rS x.Names)),(.sl 1 (List.map (rI .i64) x.Sectors))]
theorem Vu (x:Config):Es 3 (Bk x):=Ll rfl rfl
structure Segment where
 Name:Au
 In:Au
 Volume:Int
 Length:Int
 Open:(List Span)
 deriving DecidableEq
def Bd (x:Segment):List AV:=[(.str x.Name),(.str x.In),(.int .i64 x.Volume),(.int .i64 x.Length),(.sl 2 (List.map B5 x.Open))]
theorem Uk (x:Segment):Es 5 (Bd x):=Ll rfl rfl
structure Route where
 Name:Au
 A:Au
 B:Au
 From:Int
 To:Int
 Names:(List Au)
 Segments:(List Int)
 deriving DecidableEq
def Bt (x:Route):List AV:=[(.str x.Name),(.str x.A),(.str x.B),(.int .i64 x.From),(.int .i64 x.To),(.sl 1 (List.map rS x.Names)),(.sl 1 (List.map (rI .i64) x.Segments))]
theorem Xf (x:Route):Es 7 (Bt x):=Ll rfl rfl
structure Mode where
 Name:Au
 Places:Int
 deriving DecidableEq
def Dh (x:Mode):List AV:=[(.str x.Name),(.int .i64 x.Places)]
theorem Afk (x:Mode):Es 2 (Dh x):=Ll rfl rfl
structure Airport where
 Name:Au
 Modes:(List Mode)
 deriving DecidableEq
def Bb (x:Airport):List AV:=[(.str x.Name),(.sl 2 (List.map Dh x.Modes))]
theorem Rl (x:Airport):Es 2 (Bb x):=Ll rfl rfl
structure Class where
 Name:Au
 Slow:Int
 Fast:Int
 Places:Int
 deriving DecidableEq
def B2 (x:Class):List AV:=[(.str x.Name),(.int .i64 x.Slow),(.int .i64 x.Fast),(.int .i64 x.Places)]
theorem W3 (x:Class):Es 4 (B2 x):=Ll rfl rfl
structure Rule where
 Kind:Int
 C:Au
 A:Au
 Class:Int
 Airport:Int
 N:Int
 Hours:Span
 deriving DecidableEq
def A7 (x:Rule):List AV:=[(.int .i64 x.Kind),(.str x.C),(.str x.A),(.int .i64 x.Class),(.int .i64 x.Airport),(.int .i64 x.N),(.int .i64 x.Hours.From),(.int .i64 x.Hours.To)]
theorem Q9 (x:Rule):Es 8 (A7 x):=Ll rfl rfl
structure Airspace where
 Volumes:(List Volume)
 Sectors:(List Sector)
 Configs:(List Config)
 Segments:(List Segment)
 Routes:(List Route)
 Airports:(List Airport)
 Classes:(List Class)
 Rules:(List Rule)
 deriving DecidableEq
def Aw (x:Airspace):List AV:=[(.sl 2 (List.map As x.Volumes)),(.sl 5 (List.map A6 x.Sectors)),(.sl 3 (List.map Bk x.Configs)),(.sl 5 (List.map Bd x.Segments)),(.sl 7 (List.map Bt x.Routes)),(.sl 2 (List.map Bb x.Airports)),(.sl 4 (List.map B2 x.Classes)),(.sl 8 (List.map A7 x.Rules))]
structure Token where
 Kind:Int
 Text:Au
 N:Int
 At:Int
 deriving DecidableEq
def Ac (x:Token):List AV:=[(.int .i64 x.Kind),(.str x.Text),(.int .i64 x.N),(.int .i64 x.At)]
theorem O3 (x:Token):Es 4 (Ac x):=Ll rfl rfl
structure T63 where
 fAt:Int
 fE:Int
 deriving DecidableEq
structure T67 where
 fL:(List Token)
 fEnd:Int
 fA:Airspace
 deriving DecidableEq
def Apr (x:T67):List AV:=[(.sl 4 (List.map Ac x.fL)),(.int .i64 x.fEnd),(.sl 2 (List.map As x.fA.Volumes)),(.sl 5 (List.map A6 x.fA.Sectors)),(.sl 3 (List.map Bk x.fA.Configs)),(.sl 5 (List.map Bd x.fA.Segments)),(.sl 7 (List.map Bt x.fA.Routes)),(.sl 2 (List.map Bb x.fA.Airports)),(.sl 4 (List.map B2 x.fA.Classes)),(.sl 8 (List.map A7 x.fA.Rules))]
structure T69 where
 L:(List Token)
 N:Int
 End:Int
 E:Int
 At:Int
 deriving DecidableEq
structure T88 where
 fL:(List Token)
 fBad:Bool
 deriving DecidableEq
structure T119 where
 fSrc:Au
 fAt:Int
 fL:(List Token)
 deriving DecidableEq
def Ns (x:T119):List AV:=[(.str x.fSrc),(.int .i64 x.fAt),(.sl 4 (List.map Ac x.fL))]
end Go.Am
namespace Go.Am
open Go
set_option maxRecDepth 100000
set_option maxHeartbeats 4000000
set_option linter.unusedSimpArgs false
set_option linter.unusedVariables false
noncomputable section
def strings_IndexByte (s:Au)(c:Int):R Int:=.ok (Lib.indexByte s c.toNat.toUInt8)
def Kz (c:Int):R Int:=
 if(((decide (c≥97))&&(decide (c≤122)))||((decide (c≥65))&&(decide (c≤90)))) then
(.ok 2)
else
(if((decide (c≥48))&&(decide (c≤57))) then
(.ok 3)
else
(if(c==95) then
(.ok 5)
else
(if((((c==32)||(c==9))||(c==10))||(c==13)) then
(.ok 1)
else
((strings_IndexByte [123,125,40,41,59,44,61,35,47,60,33,45,46] c).bind fun r=>
 if r≥0 then
(.ok 4)
else
(.ok 0)))))
def N3 (s:T119):R Unit:=
 .pan ⟨113,.int .i64 s.fAt⟩
def F9 (v:Int)(j:Nat)(a:Int):R (Unit ⊕ Int):=
 if(v==a) then
(.ok (.inr ((j:Int))))
else
(.ok (.inl ()))
def O2 (s:List Int)(v:Int):R Int:=
 (each (fun j a=>fun _=>F9 v j a) 0 s ()).bind (Dp (fun _=>.ok (-1)) (fun r=>.ok r))
def Lf (s:List Int)(v:Int):R Bool:=
 (O2 s v).bind fun r=>
 .ok (decide (r≥0))
def L8 (s:T119)(some:List Int)(n:Int):R (Int ⊕ Int):=
 (if(decide (n<(s.fSrc.length:Int))) then(En s.fSrc n).bind fun a=>
 (Kz (a.toNat:Int)).bind fun r=>
 (Lf some r).bind fun r1=>
 R.ok r1 else R.ok false).bind (fun(b:Bool)=>if b then
(.ok (.inl (IntKind.wrap .i64 (n+1))))
else
(.ok (.inr (n))))
def L4 (s:T119)(n1:Int):R Au:=
 if(0:Int)≤s.fAt∧s.fAt≤n1∧n1≤(s.fSrc.length:Int) then
 .ok (cut s.fSrc s.fAt n1) else .bad
def Jd (s:T119)(some:List Int):R Au:=
 (loop (fun n=>L8 s some n) s.fAt).bind (fun n1=>L4 s n1)
def Pk (a1:UInt8):R (Unit ⊕ Bool):=
 (Kz (a1.toNat:Int)).bind fun c=>
 if(((c != 2)&&(c != 3))&&(c != 5)) then
(.ok (.inr (false)))
else
(.ok (.inl ()))
def Sj (s:Au):R Bool:=
 (if((s==[])||(decide ((s.length:Int) > 32))) then R.ok true else(En s 0).bind fun a=>
 (Kz (a.toNat:Int)).bind fun r=>
 R.ok (r != 2)).bind (fun(b:Bool)=>if b then
(.ok false)
else
(if s.length≤D2 then
((each (fun _ a1=>fun _=>Pk a1) 0 s ()).bind (Dp (fun _=>.ok true) (fun r=>.ok r))) else .bad))
def Q6 (t:Token):R Bool:=
 if(t.Kind==1) then
((Sj t.Text).bind fun r=>
 .ok (r&&(t.N==0)))
else
(if(t.Kind==2) then
(.ok (((t.Text==[])&&(decide (t.N≥0)))&&(decide (t.N≤1099511627776))))
else
(if(t.Kind==3) then
((if((t.Text.length:Int)==1) then(En t.Text 0).bind fun a=>
 (Kz (a.toNat:Int)).bind fun r1=>
 R.ok (r1==4) else R.ok false).bind (fun(b:Bool)=>.ok (b&&(t.N==0))))
else
(.ok false)))
def Of (s:Au):R (Int×Bool):=if s.length≤281474976710656 then(match Lib.atoiAll s with
 | .ok v=>.ok (v,false)
 | Lib.NumEnd.syntax=>.ok (0,true)
 | .range=>.ok (Lib.atoiSat s,true)) else .bad
def strconv_Itoa (n:Int):R Au:=if -9223372036854775808≤n∧n≤9223372036854775807 then .ok (Lib.itoa n) else .bad
def Hk (s:Au)(vprefix:Au):R Bool:=
 (if(decide ((s.length:Int)≥(vprefix.length:Int))) then if(0:Int)≤(vprefix.length:Int)∧(vprefix.length:Int)≤(s.length:Int) then
 R.ok ((s.take (Int.toNat (vprefix.length:Int)))==vprefix) else .bad else R.ok false).bind (fun(b:Bool)=>.ok b)
def Mm (s:Au)(vprefix:Au):R Bool:=
 (Hk s vprefix).bind fun r=>
 .ok r
def Lj (s0_src:Au)(s0_at:Int)(l:List Token):R Int:=
 (Jd ({ fSrc:=s0_src,fAt:=s0_at,fL:=l }:T119) [1]).bind fun r=>
 .ok (IntKind.wrap .i64 (s0_at+(r.length:Int)))
def Gb (text:Au)(t:Token)(s0_src:Au)(s0_at:Int)(l:List Token):R (List Token):=
 (Q6 t).bind fun r=>
 if r then
(if(l.length+[({ Kind:=t.Kind,Text:=t.Text,N:=t.N,At:=s0_at }:Token)].length) * 40≤D2 then
 .ok (l++[({ Kind:=t.Kind,Text:=t.Text,N:=t.N,At:=s0_at }:Token)]) else .bad)
else
(.pan ⟨113,.int .i64 s0_at⟩)
def L5 (s0_src:Au)(s0_at:Int)(l:List Token):R (Int×(List Token)):=
 (Jd ({ fSrc:=s0_src,fAt:=s0_at,fL:=l }:T119) [2,3,5]).bind fun t=>
 (Gb t ({ Kind:=1,Text:=t,N:=0,At:=0 }:Token) s0_src s0_at l).bind fun r=>
 .ok ((IntKind.wrap .i64 (s0_at+(t.length:Int))),r)
def Kf (s0_src:Au)(s0_at:Int)(l:List Token):R (Int×(List Token)):=
 (Jd ({ fSrc:=s0_src,fAt:=s0_at,fL:=l }:T119) [3]).bind fun t=>
 (Of t).bind fun r=>
 (if r.2 then R.ok true else(strconv_Itoa r.1).bind fun r1=>
 R.ok (!(r1==t))).bind (fun(b:Bool)=>if b then
(.pan ⟨113,.int .i64 s0_at⟩)
else
((Gb t ({ Kind:=2,Text:=[],N:=r.1,At:=0 }:Token) s0_src s0_at l).bind fun r2=>
 .ok ((IntKind.wrap .i64 (s0_at+(t.length:Int))),r2)))
def L6 (s0_src:Au)(s0_at:Int)(l:List Token):R (Int×(List Token)):=
 if(0:Int)≤s0_at∧s0_at≤(s0_src.length:Int) then
 (Mm (s0_src.drop (Int.toNat s0_at)) [47,47]).bind fun r=>
 if r then
(if(0:Int)≤s0_at∧s0_at≤(s0_src.length:Int) then
 (strings_IndexByte (s0_src.drop (Int.toNat s0_at)) 10).bind fun n=>
 if n≥0 then
(.ok ((IntKind.wrap .i64 (s0_at+n)),l))
else
(.ok ((s0_src.length:Int),l)) else .bad)
else
(if(0:Int)≤s0_at∧s0_at≤(IntKind.wrap .i64 (s0_at+1))∧(IntKind.wrap .i64 (s0_at+1))≤(s0_src.length:Int) then
 (Gb (cut s0_src s0_at (IntKind.wrap .i64 (s0_at+1))) ({ Kind:=3,Text:=(cut s0_src s0_at (IntKind.wrap .i64 (s0_at+1))),N:=0,At:=0 }:Token) s0_src s0_at l).bind fun r1=>
 .ok ((IntKind.wrap .i64 (s0_at+((cut s0_src s0_at (IntKind.wrap .i64 (s0_at+1))).length:Int))),r1) else .bad) else .bad
def I3 (n:Int):R Int:=
 .ok n
def Mx (src:Au)(fAt:Int)(l:List Token):R ((Int×(List Token)) ⊕ (Int×(List Token))):=
 if fAt<(src.length:Int) then
((En src fAt).bind fun a=>
 (Kz (a.toNat:Int)).bind fun r=>
 if r=0 then
((N3 ({ fSrc:=src,fAt:=fAt,fL:=l }:T119)).bind fun _=>
 .ok (.inl (fAt,l)))
else
(if r=1 then
((Lj src fAt l).bind fun r2=>
 .ok (.inl (r2,l)))
else
(if r=2 then
((L5 src fAt l).bind fun r3=>
 .ok (.inl (r3.1,r3.2)))
else
(if r=3 then
((Kf src fAt l).bind fun r4=>
 .ok (.inl (r4.1,r4.2)))
else
(if r=4 then
((L6 src fAt l).bind fun r5=>
 .ok (.inl (r5.1,r5.2)))
else
(if r=5 then
((N3 ({ fSrc:=src,fAt:=fAt,fL:=l }:T119)).bind fun _=>
 .ok (.inl (fAt,l)))
else
(.bad)))))))
else
(.ok (.inr ((fAt,l))))
def Uh (fAt3:Int)(l1:List Token):R ((List Token)×Int×Int):=
 .ok (l1,0,0)
def V0 (src:Au):R ((List Token)×Int×Int):=
 if(src.length:Int) > 65536 then
(.ok ([],0,2))
else
((loop (C0 fun fAt l=>Mx src fAt l) (0,[])).bind (C0 fun fAt3 l1=>Uh fAt3 l1))
def Zl (src:Au):R ((List Token)×Int×Int):=
 (V0 src).catch' (Nn 113 .i64 (fun n=>(I3 n).bind fun p=>.ok ([],p,70)) (fun _=>.bad))
def L7 (r:T67)(e:Int):R Unit:=
 if(r.fL.length:Int) > 0 then
((En r.fL 0).bind fun a=>
 .pan ⟨64,.two .i64 .i64 a.At e⟩)
else
(.pan ⟨64,.two .i64 .i64 r.fEnd e⟩)
def Bm (e:Int)(s_l:List Token)(s_end:Int):R Unit:=
 if(s_l.length:Int) > 0 then
((En s_l 0).bind fun a=>
 .pan ⟨64,.two .i64 .i64 a.At e⟩)
else
(.pan ⟨64,.two .i64 .i64 s_end e⟩)
def J1 (a:Token):R Bool:=
 .ok true
def Eu (s_l:List Token):R Token:=
 (En s_l 0).bind fun a2=>
 if(0:Int)≤1∧1≤(s_l.length:Int) then
 .ok a2 else .bad
def Me (kind:Int)(s_l:List Token)(s_end:Int):R Token:=
 (if((s_l.length:Int)==0) then R.ok true else(En s_l 0).bind fun a=>
 R.ok (a.Kind != kind)).bind (fun(b:Bool)=>(if b then R.ok true else(En s_l 0).bind fun a1=>
 (J1 a1).bind fun r=>
 R.ok (!r)).bind (fun(b1:Bool)=>if b1 then
((Bm 80 s_l s_end).bind fun _=>
 Eu s_l)
else
(Eu s_l)))
def B3 (s_l:List Token)(s_end:Int):R Au:=
 (Me 1 s_l s_end).bind fun r=>
 .ok r.Text
def J3 (t:Token)(b:Au):R Bool:=
 .ok (t.Text==b)
def Eh (s0_l:List Token):R Token:=
 (En s0_l 0).bind fun a2=>
 if(0:Int)≤1∧1≤(s0_l.length:Int) then
 .ok a2 else .bad
def K5 (kind:Int)(s0_l:List Token)(s0_end:Int)(s1:Au):R Token:=
 (if((s0_l.length:Int)==0) then R.ok true else(En s0_l 0).bind fun a=>
 R.ok (a.Kind != kind)).bind (fun(b:Bool)=>(if b then R.ok true else(En s0_l 0).bind fun a1=>
 (J3 a1 s1).bind fun r=>
 R.ok (!r)).bind (fun(b1:Bool)=>if b1 then
((Bm 80 s0_l s0_end).bind fun _=>
 Eh s0_l)
else
(Eh s0_l)))
def Cy (text:Au)(s_l:List Token)(s_end:Int):R Unit:=
 (K5 1 s_l s_end text).bind fun r=>
 .ok ()
def Gu (t:Token)(b:Int)(c:Int):R Bool:=
 .ok ((decide (t.N≥b))&&(decide (t.N≤c)))
def Ee (s0_l:List Token):R Token:=
 (En s0_l 0).bind fun a2=>
 if(0:Int)≤1∧1≤(s0_l.length:Int) then
 .ok a2 else .bad
def Lb (kind:Int)(s0_l:List Token)(s0_end:Int)(s1:Int)(s2:Int):R Token:=
 (if((s0_l.length:Int)==0) then R.ok true else(En s0_l 0).bind fun a=>
 R.ok (a.Kind != kind)).bind (fun(b:Bool)=>(if b then R.ok true else(En s0_l 0).bind fun a1=>
 (Gu a1 s1 s2).bind fun r=>
 R.ok (!r)).bind (fun(b1:Bool)=>if b1 then
((Bm 80 s0_l s0_end).bind fun _=>
 Ee s0_l)
else
(Ee s0_l)))
def De (least:Int)(most:Int)(s_l:List Token)(s_end:Int):R Int:=
 (Lb 2 s_l s_end least most).bind fun r=>
 .ok r.N
def Fp (s1_l:List Token)(s1_end:Int):R Mode:=
 (Cy [109,111,100,101] s1_l s1_end).bind fun _=>
 (B3 (s1_l.drop 1) s1_end).bind fun r1=>
 (De 0 64 ((s1_l.drop 1).drop 1) s1_end).bind fun r2=>
 .ok ({ Name:=r1,Places:=r2 }:Mode)
def Fh (kind:Int)(text:Au)(s_l:List Token)(s_end:Int):R Bool:=
 (if(decide ((s_l.length:Int) > 0)) then(En s_l 0).bind fun a=>
 R.ok (a.Kind==kind) else R.ok false).bind (fun(b:Bool)=>(if b then(En s_l 0).bind fun a1=>
 R.ok (a1.Text==text) else R.ok false).bind (fun(b1:Bool)=>.ok b1))
def J0 (t:Token)(b:Au):R Bool:=
 .ok (t.Text==b)
def Eg (s0_l:List Token):R Token:=
 (En s0_l 0).bind fun a2=>
 if(0:Int)≤1∧1≤(s0_l.length:Int) then
 .ok a2 else .bad
def K8 (kind:Int)(s0_l:List Token)(s0_end:Int)(s1:Au):R Token:=
 (if((s0_l.length:Int)==0) then R.ok true else(En s0_l 0).bind fun a=>
 R.ok (a.Kind != kind)).bind (fun(b:Bool)=>(if b then R.ok true else(En s0_l 0).bind fun a1=>
 (J0 a1 s1).bind fun r=>
 R.ok (!r)).bind (fun(b1:Bool)=>if b1 then
((Bm 80 s0_l s0_end).bind fun _=>
 Eg s0_l)
else
(Eg s0_l)))
def B7 (text:Au)(s_l:List Token)(s_end:Int):R Unit:=
 (K8 3 s_l s_end text).bind fun r=>
 .ok ()
def Fm (s:Au)(s1_l:List Token)(s1_end:Int):R Class:=
 (Cy [115,108,111,119] s1_l s1_end).bind fun _=>
 (De 1 64 (s1_l.drop 1) s1_end).bind fun r1=>
 (Cy [102,97,115,116] ((s1_l.drop 1).drop 1) s1_end).bind fun _=>
 (De r1 64 (((s1_l.drop 1).drop 1).drop 1) s1_end).bind fun r3=>
 (Cy [112,108,97,99,101,115] ((((s1_l.drop 1).drop 1).drop 1).drop 1) s1_end).bind fun _=>
 (De 1 8 (((((s1_l.drop 1).drop 1).drop 1).drop 1).drop 1) s1_end).bind fun r5=>
 .ok ({ Name:=s,Slow:=r1,Fast:=r3,Places:=r5 }:Class)
def Hf (s_l:List Token)(s_end:Int):R Span:=
 (De 0 1439 s_l s_end).bind fun r=>
 (Cy [116,111] (s_l.drop 1) s_end).bind fun _=>
 (De (IntKind.wrap .i64 (r+1)) 1440 ((s_l.drop 1).drop 1) s_end).bind fun r2=>
 .ok ({ From:=r,To:=r2 }:Span)
def Ko (s0:Rule)(s2_l:List Token)(s2_end:Int):R Rule:=
 (Cy [97,116] s2_l s2_end).bind fun _=>
 (B3 (s2_l.drop 1) s2_end).bind fun r1=>
 (Hf ((s2_l.drop 1).drop 1) s2_end).bind fun r2=>
 .ok ({ Kind:=s0.Kind,C:=s0.C,A:=r1,Class:=s0.Class,Airport:=s0.Airport,N:=s0.N,Hours:=r2 }:Rule)
def Fq (class1:Au)(s0:Int)(s3_l:List Token)(s3_end:Int):R Rule:=
 (Ko ({ Kind:=s0,C:=class1,A:=[],Class:=0,Airport:=0,N:=0,Hours:=({ From:=0,To:=0 }:Span) }:Rule) s3_l s3_end).bind fun r=>
 .ok r
def Nc (a:Rule):R Unit:=
 .ok ()
def Gy (class1:Au)(s0:Int):R Unit:=
 (Nc ({ Kind:=s0,C:=class1,A:=[],Class:=0,Airport:=0,N:=0,Hours:=({ From:=0,To:=0 }:Span) }:Rule)).bind fun _=>
 .ok ()
def Gj (t:Token):R Bool:=
 .ok ((decide (t.N≤60))&&((Int.tmod t.N 10)==0))
def Ef (s_l:List Token):R Token:=
 (En s_l 0).bind fun a2=>
 if(0:Int)≤1∧1≤(s_l.length:Int) then
 .ok a2 else .bad
def Gt (kind:Int)(s_l:List Token)(s_end:Int):R Token:=
 (if((s_l.length:Int)==0) then R.ok true else(En s_l 0).bind fun a=>
 R.ok (a.Kind != kind)).bind (fun(b:Bool)=>(if b then R.ok true else(En s_l 0).bind fun a1=>
 (Gj a1).bind fun r=>
 R.ok (!r)).bind (fun(b1:Bool)=>if b1 then
((Bm 80 s_l s_end).bind fun _=>
 Ef s_l)
else
(Ef s_l)))
def J8 (s0:Rule)(s2_l:List Token)(s2_end:Int):R Rule:=
 (Gt 2 s2_l s2_end).bind fun r=>
 .ok ({ Kind:=s0.Kind,C:=s0.C,A:=s0.A,Class:=s0.Class,Airport:=s0.Airport,N:=r.N,Hours:=s0.Hours }:Rule)
def Fu (class1:Au)(s0:Int)(s3_l:List Token)(s3_end:Int):R Rule:=
 (J8 ({ Kind:=s0,C:=class1,A:=[],Class:=0,Airport:=0,N:=0,Hours:=({ From:=0,To:=0 }:Span) }:Rule) s3_l s3_end).bind fun r=>
 .ok r
def J5 (s0:Rule)(s2_l:List Token)(s2_end:Int):R Rule:=
 (De 1 8 s2_l s2_end).bind fun r=>
 .ok ({ Kind:=s0.Kind,C:=s0.C,A:=s0.A,Class:=s0.Class,Airport:=s0.Airport,N:=r,Hours:=s0.Hours }:Rule)
def Fv (class1:Au)(s0:Int)(s3_l:List Token)(s3_end:Int):R Rule:=
 (J5 ({ Kind:=s0,C:=class1,A:=[],Class:=0,Airport:=0,N:=0,Hours:=({ From:=0,To:=0 }:Span) }:Rule) s3_l s3_end).bind fun r=>
 .ok r
def G2 (s0_end:Int)(fL:List Token)(l1:List Mode)(r:Mode):R (((List Token)×(List Mode)) ⊕ ((List Mode)×(List Token))):=
 (B7 [44] (((fL.drop 1).drop 1).drop 1) s0_end).bind fun _=>
 .ok (.inl (((((fL.drop 1).drop 1).drop 1).drop 1),(l1++[r])))
def G6 (most:Int)(s0_end:Int)(fL:List Token)(l1:List Mode):R (((List Token)×(List Mode)) ⊕ ((List Mode)×(List Token))):=
 (Fp fL s0_end).bind fun r=>
 if(l1.length+[r].length) * 24≤D2 then
 (Fh 3 [44] (((fL.drop 1).drop 1).drop 1) s0_end).bind fun r1=>
 if r1 then
(if(((l1++[r]).length:Int)==most) then
((Bm 2 (((fL.drop 1).drop 1).drop 1) s0_end).bind fun _=>
 G2 s0_end fL l1 r)
else
(G2 s0_end fL l1 r))
else
(.ok (.inr (((l1++[r]),(((fL.drop 1).drop 1).drop 1))))) else .bad
def Gx (most:Int)(s0_l:List Token)(s0_end:Int)(l:List Volume):R ((List Mode)×(List Token)):=
 (loop (C0 fun fL l1=>G6 most s0_end fL l1) (s0_l,[])).bind (fun r=>.ok r)
def E3 (s:Au)(s1_l:List Token)(s1_end:Int)(l:List Volume):R (Airport×(List Token)):=
 (Gx 16 s1_l s1_end l).bind fun r=>
 .ok (({ Name:=s,Modes:=r.1 }:Airport),r.2)
def Fy (s0_end:Int)(fL:List Token)(l1:List Au)(r:Au):R (((List Token)×(List Au)) ⊕ ((List Au)×(List Token))):=
 (B7 [44] (fL.drop 1) s0_end).bind fun _=>
 .ok (.inl (((fL.drop 1).drop 1),(l1++[r])))
def Fx (most:Int)(s0_end:Int)(fL:List Token)(l1:List Au):R (((List Token)×(List Au)) ⊕ ((List Au)×(List Token))):=
 (B3 fL s0_end).bind fun r=>
 if(l1.length+[r].length) * 16≤D2 then
 (Fh 3 [44] (fL.drop 1) s0_end).bind fun r1=>
 if r1 then
(if(((l1++[r]).length:Int)==most) then
((Bm 2 (fL.drop 1) s0_end).bind fun _=>
 Fy s0_end fL l1 r)
else
(Fy s0_end fL l1 r))
else
(.ok (.inr (((l1++[r]),(fL.drop 1))))) else .bad
def D9 (most:Int)(s0_l:List Token)(s0_end:Int)(l:List Volume):R ((List Au)×(List Token)):=
 (loop (C0 fun fL l1=>Fx most s0_end fL l1) (s0_l,[])).bind (fun r=>.ok r)
def E0 (s:Au)(s1_l:List Token)(s1_end:Int)(l:List Volume):R (Config×(List Token)):=
 (B7 [61] s1_l s1_end).bind fun _=>
 (D9 64 (s1_l.drop 1) s1_end l).bind fun r1=>
 .ok (({ Name:=s,Names:=r1.1,Sectors:=[] }:Config),r1.2)
def E7 (s:Au)(s1_l:List Token)(s1_end:Int)(l:List Volume):R (Route×(List Token)):=
 (Cy [102,114,111,109] s1_l s1_end).bind fun _=>
 (B3 (s1_l.drop 1) s1_end).bind fun r1=>
 (Cy [116,111] ((s1_l.drop 1).drop 1) s1_end).bind fun _=>
 (B3 (((s1_l.drop 1).drop 1).drop 1) s1_end).bind fun r3=>
 (Cy [118,105,97] ((((s1_l.drop 1).drop 1).drop 1).drop 1) s1_end).bind fun _=>
 (D9 8 (((((s1_l.drop 1).drop 1).drop 1).drop 1).drop 1) s1_end l).bind fun r5=>
 .ok (({ Name:=s,A:=r1,B:=r3,From:=0,To:=0,Names:=r5.1,Segments:=[] }:Route),r5.2)
def E4 (s:Au)(s1_l:List Token)(s1_end:Int)(l:List Volume):R (Sector×(List Token)):=
 (B7 [61] s1_l s1_end).bind fun _=>
 (D9 64 (s1_l.drop 1) s1_end l).bind fun r1=>
 (Cy [114,97,100,97,114] r1.2 s1_end).bind fun _=>
 (De 0 64 (r1.2.drop 1) s1_end).bind fun r3=>
 (Cy [112,114,111,99,101,100,117,114,97,108] ((r1.2.drop 1).drop 1) s1_end).bind fun _=>
 (De 0 r3 (((r1.2.drop 1).drop 1).drop 1) s1_end).bind fun r5=>
 .ok (({ Name:=s,Names:=r1.1,Volumes:=[],Radar:=r3,Procedural:=r5 }:Sector),((((r1.2.drop 1).drop 1).drop 1).drop 1))
def F4 (s0_end:Int)(fL:List Token)(l1:List Span)(r:Span):R (((List Token)×(List Span)) ⊕ ((List Span)×(List Token))):=
 (B7 [44] (((fL.drop 1).drop 1).drop 1) s0_end).bind fun _=>
 .ok (.inl (((((fL.drop 1).drop 1).drop 1).drop 1),(l1++[r])))
def F3 (most:Int)(s0_end:Int)(fL:List Token)(l1:List Span):R (((List Token)×(List Span)) ⊕ ((List Span)×(List Token))):=
 (Hf fL s0_end).bind fun r=>
 if(l1.length+[r].length) * 16≤D2 then
 (Fh 3 [44] (((fL.drop 1).drop 1).drop 1) s0_end).bind fun r1=>
 if r1 then
(if(((l1++[r]).length:Int)==most) then
((Bm 2 (((fL.drop 1).drop 1).drop 1) s0_end).bind fun _=>
 F4 s0_end fL l1 r)
else
(F4 s0_end fL l1 r))
else
(.ok (.inr (((l1++[r]),(((fL.drop 1).drop 1).drop 1))))) else .bad
def E5 (most:Int)(s0_l:List Token)(s0_end:Int)(l:List Volume):R ((List Span)×(List Token)):=
 (loop (C0 fun fL l1=>F3 most s0_end fL l1) (s0_l,[])).bind (fun r=>.ok r)
def Ge (text:Au)(s0_l:List Token)(s0_end:Int)(l:List Volume):R ((List Span)×(List Token)):=
 (Fh 1 text s0_l s0_end).bind fun r=>
 if r then
((Cy text s0_l s0_end).bind fun _=>
 (E5 16 (s0_l.drop 1) s0_end l).bind fun r2=>
 .ok (r2.1,r2.2))
else
(.ok ([],s0_l))
def E2 (s:Au)(s1_l:List Token)(s1_end:Int)(l:List Volume):R (Segment×(List Token)):=
 (Cy [105,110] s1_l s1_end).bind fun _=>
 (B3 (s1_l.drop 1) s1_end).bind fun r1=>
 (Cy [108,101,110,103,116,104] ((s1_l.drop 1).drop 1) s1_end).bind fun _=>
 (De 1 4096 (((s1_l.drop 1).drop 1).drop 1) s1_end).bind fun r3=>
 (Ge [111,112,101,110] ((((s1_l.drop 1).drop 1).drop 1).drop 1) s1_end l).bind fun r4=>
 .ok (({ Name:=s,In:=r1,Volume:=0,Length:=r3,Open:=r4.1 }:Segment),r4.2)
def E1 (s:Au)(s1_l:List Token)(s1_end:Int)(l:List Volume):R (Volume×(List Token)):=
 (Ge [99,108,111,115,101,100] s1_l s1_end l).bind fun r=>
 .ok (({ Name:=s,Closed:=r.1 }:Volume),r.2)
def Ho (s0_l:List Token)(s0_end:Int)(l:List Volume):R ((List Token)×(List Volume)):=
 if(0:Int)≤1∧1≤(s0_l.length:Int) then
 (B3 (s0_l.drop 1) s0_end).bind fun r1=>
 (E1 r1 ((s0_l.drop 1).drop 1) s0_end l).bind fun r2=>
 (B7 [59] r2.2 s0_end).bind fun _=>
 if(l.length+[r2.1].length) * 40≤D2 then
 .ok ((r2.2.drop 1),(l++[r2.1])) else .bad else .bad
def G9 (most:Int)(s0_l:List Token)(s0_end:Int)(l:List Volume):R ((List Token)×(List Volume)):=
 if((l.length:Int)==most) then
((Bm 2 s0_l s0_end).bind fun _=>
 Ho s0_l s0_end l)
else
(Ho s0_l s0_end l)
def Im (s0_l:List Token)(s0_end:Int)(l:List Volume):R ((List Token)×(List Volume)):=
 (G9 64 s0_l s0_end l).bind fun r=>
 .ok (r.1,r.2)
def Hl (s0_l:List Token)(s0_end:Int)(l:List Volume)(l1:List Sector):R ((List Token)×(List Sector)):=
 if(0:Int)≤1∧1≤(s0_l.length:Int) then
 (B3 (s0_l.drop 1) s0_end).bind fun r1=>
 (E4 r1 ((s0_l.drop 1).drop 1) s0_end l).bind fun r2=>
 (B7 [59] r2.2 s0_end).bind fun _=>
 if(l1.length+[r2.1].length) * 80≤D2 then
 .ok ((r2.2.drop 1),(l1++[r2.1])) else .bad else .bad
def G8 (most:Int)(s0_l:List Token)(s0_end:Int)(l:List Volume)(l1:List Sector):R ((List Token)×(List Sector)):=
 if((l1.length:Int)==most) then
((Bm 2 s0_l s0_end).bind fun _=>
 Hl s0_l s0_end l l1)
else
(Hl s0_l s0_end l l1)
def It (s0_l:List Token)(s0_end:Int)(l:List Volume)(l1:List Sector):R ((List Token)×(List Sector)):=
 (G8 64 s0_l s0_end l l1).bind fun r=>
 .ok (r.1,r.2)
def Hj (s0_l:List Token)(s0_end:Int)(l:List Volume)(l1:List Config):R ((List Token)×(List Config)):=
 if(0:Int)≤1∧1≤(s0_l.length:Int) then
 (B3 (s0_l.drop 1) s0_end).bind fun r1=>
 (E0 r1 ((s0_l.drop 1).drop 1) s0_end l).bind fun r2=>
 (B7 [59] r2.2 s0_end).bind fun _=>
 if(l1.length+[r2.1].length) * 64≤D2 then
 .ok ((r2.2.drop 1),(l1++[r2.1])) else .bad else .bad
def Ha (most:Int)(s0_l:List Token)(s0_end:Int)(l:List Volume)(l1:List Config):R ((List Token)×(List Config)):=
 if((l1.length:Int)==most) then
((Bm 2 s0_l s0_end).bind fun _=>
 Hj s0_l s0_end l l1)
else
(Hj s0_l s0_end l l1)
def Iw (s0_l:List Token)(s0_end:Int)(l:List Volume)(l1:List Config):R ((List Token)×(List Config)):=
 (Ha 32 s0_l s0_end l l1).bind fun r=>
 .ok (r.1,r.2)
def G4 (s0_l:List Token)(s0_end:Int)(l:List Volume)(l1:List Segment):R ((List Token)×(List Segment)):=
 if(0:Int)≤1∧1≤(s0_l.length:Int) then
 (B3 (s0_l.drop 1) s0_end).bind fun r1=>
 (E2 r1 ((s0_l.drop 1).drop 1) s0_end l).bind fun r2=>
 (B7 [59] r2.2 s0_end).bind fun _=>
 if(l1.length+[r2.1].length) * 72≤D2 then
 .ok ((r2.2.drop 1),(l1++[r2.1])) else .bad else .bad
def Gv (most:Int)(s0_l:List Token)(s0_end:Int)(l:List Volume)(l1:List Segment):R ((List Token)×(List Segment)):=
 if((l1.length:Int)==most) then
((Bm 2 s0_l s0_end).bind fun _=>
 G4 s0_l s0_end l l1)
else
(G4 s0_l s0_end l l1)
def Ik (s0_l:List Token)(s0_end:Int)(l:List Volume)(l1:List Segment):R ((List Token)×(List Segment)):=
 (Gv 128 s0_l s0_end l l1).bind fun r=>
 .ok (r.1,r.2)
def H3 (s0_l:List Token)(s0_end:Int)(l:List Volume)(l1:List Route):R ((List Token)×(List Route)):=
 if(0:Int)≤1∧1≤(s0_l.length:Int) then
 (B3 (s0_l.drop 1) s0_end).bind fun r1=>
 (E7 r1 ((s0_l.drop 1).drop 1) s0_end l).bind fun r2=>
 (B7 [59] r2.2 s0_end).bind fun _=>
 if(l1.length+[r2.1].length) * 112≤D2 then
 .ok ((r2.2.drop 1),(l1++[r2.1])) else .bad else .bad
def Hw (most:Int)(s0_l:List Token)(s0_end:Int)(l:List Volume)(l1:List Route):R ((List Token)×(List Route)):=
 if((l1.length:Int)==most) then
((Bm 2 s0_l s0_end).bind fun _=>
 H3 s0_l s0_end l l1)
else
(H3 s0_l s0_end l l1)
def Iv (s0_l:List Token)(s0_end:Int)(l:List Volume)(l1:List Route):R ((List Token)×(List Route)):=
 (Hw 64 s0_l s0_end l l1).bind fun r=>
 .ok (r.1,r.2)
def G7 (s0_l:List Token)(s0_end:Int)(l:List Volume)(l1:List Airport):R ((List Token)×(List Airport)):=
 if(0:Int)≤1∧1≤(s0_l.length:Int) then
 (B3 (s0_l.drop 1) s0_end).bind fun r1=>
 (E3 r1 ((s0_l.drop 1).drop 1) s0_end l).bind fun r2=>
 (B7 [59] r2.2 s0_end).bind fun _=>
 if(l1.length+[r2.1].length) * 40≤D2 then
 .ok ((r2.2.drop 1),(l1++[r2.1])) else .bad else .bad
def Gw (most:Int)(s0_l:List Token)(s0_end:Int)(l:List Volume)(l1:List Airport):R ((List Token)×(List Airport)):=
 if((l1.length:Int)==most) then
((Bm 2 s0_l s0_end).bind fun _=>
 G7 s0_l s0_end l l1)
else
(G7 s0_l s0_end l l1)
def Ip (s0_l:List Token)(s0_end:Int)(l:List Volume)(l1:List Airport):R ((List Token)×(List Airport)):=
 (Gw 16 s0_l s0_end l l1).bind fun r=>
 .ok (r.1,r.2)
def Hz (s0_l:List Token)(s0_end:Int)(l:List Class):R (List Class):=
 if(0:Int)≤1∧1≤(s0_l.length:Int) then
 (B3 (s0_l.drop 1) s0_end).bind fun r1=>
 (Fm r1 ((s0_l.drop 1).drop 1) s0_end).bind fun r2=>
 (B7 [59] ((((((((s0_l.drop 1).drop 1).drop 1).drop 1).drop 1).drop 1).drop 1).drop 1) s0_end).bind fun _=>
 if(l.length+[r2].length) * 40≤D2 then
 .ok (l++[r2]) else .bad else .bad
def Hu (most:Int)(s0_l:List Token)(s0_end:Int)(l:List Class):R (List Class):=
 if((l.length:Int)==most) then
((Bm 2 s0_l s0_end).bind fun _=>
 Hz s0_l s0_end l)
else
(Hz s0_l s0_end l)
def Il (s0_l:List Token)(s0_end:Int)(l:List Class):R (List Class):=
 (Hu 8 s0_l s0_end l).bind fun r=>
 .ok r
def Io (s0_l:List Token)(s0_end:Int)(l:List Rule)(s2:Int):R (List Rule):=
 if(0:Int)≤1∧1≤(s0_l.length:Int) then
 (B3 (s0_l.drop 1) s0_end).bind fun r1=>
 (Fq r1 s2 ((s0_l.drop 1).drop 1) s0_end).bind fun r2=>
 (B7 [59] (((((((s0_l.drop 1).drop 1).drop 1).drop 1).drop 1).drop 1).drop 1) s0_end).bind fun _=>
 if(l.length+[r2].length) * 80≤D2 then
 .ok (l++[r2]) else .bad else .bad
def H7 (most:Int)(s0_l:List Token)(s0_end:Int)(l:List Rule)(s2:Int):R (List Rule):=
 if((l.length:Int)==most) then
((Bm 2 s0_l s0_end).bind fun _=>
 Io s0_l s0_end l s2)
else
(Io s0_l s0_end l s2)
def Kj (kind:Int)(s0_l:List Token)(s0_end:Int)(l:List Rule):R (List Rule):=
 (H7 64 s0_l s0_end l kind).bind fun r=>
 .ok r
def Ij (s0_l:List Token)(s0_end:Int)(l:List Rule):R (List Rule):=
 (Kj 1 s0_l s0_end l).bind fun r=>
 .ok r
def Iu (s0_l:List Token)(s0_end:Int)(l:List Rule)(s2:Int):R (List Rule):=
 if(0:Int)≤1∧1≤(s0_l.length:Int) then
 (B3 (s0_l.drop 1) s0_end).bind fun r1=>
 (Gy r1 s2).bind fun _=>
 (B7 [59] ((s0_l.drop 1).drop 1) s0_end).bind fun _=>
 if(l.length+[({ Kind:=s2,C:=r1,A:=[],Class:=0,Airport:=0,N:=0,Hours:=({ From:=0,To:=0 }:Span) }:Rule)].length) * 80≤D2 then
 .ok (l++[({ Kind:=s2,C:=r1,A:=[],Class:=0,Airport:=0,N:=0,Hours:=({ From:=0,To:=0 }:Span) }:Rule)]) else .bad else .bad
def Id (most:Int)(s0_l:List Token)(s0_end:Int)(l:List Rule)(s2:Int):R (List Rule):=
 if((l.length:Int)==most) then
((Bm 2 s0_l s0_end).bind fun _=>
 Iu s0_l s0_end l s2)
else
(Iu s0_l s0_end l s2)
def Kl (kind:Int)(s0_l:List Token)(s0_end:Int)(l:List Rule):R (List Rule):=
 (Id 64 s0_l s0_end l kind).bind fun r=>
 .ok r
def Ir (s0_l:List Token)(s0_end:Int)(l:List Rule):R (List Rule):=
 (Kl 2 s0_l s0_end l).bind fun r=>
 .ok r
def Ih (s0_l:List Token)(s0_end:Int)(l:List Rule)(s2:Int):R (List Rule):=
 if(0:Int)≤1∧1≤(s0_l.length:Int) then
 (B3 (s0_l.drop 1) s0_end).bind fun r1=>
 (Fu r1 s2 ((s0_l.drop 1).drop 1) s0_end).bind fun r2=>
 (B7 [59] (((s0_l.drop 1).drop 1).drop 1) s0_end).bind fun _=>
 if(l.length+[r2].length) * 80≤D2 then
 .ok (l++[r2]) else .bad else .bad
def Ig (most:Int)(s0_l:List Token)(s0_end:Int)(l:List Rule)(s2:Int):R (List Rule):=
 if((l.length:Int)==most) then
((Bm 2 s0_l s0_end).bind fun _=>
 Ih s0_l s0_end l s2)
else
(Ih s0_l s0_end l s2)
def Kp (kind:Int)(s0_l:List Token)(s0_end:Int)(l:List Rule):R (List Rule):=
 (Ig 64 s0_l s0_end l kind).bind fun r=>
 .ok r
def H0 (s0_l:List Token)(s0_end:Int)(l:List Rule):R (List Rule):=
 (Kp 4 s0_l s0_end l).bind fun r=>
 .ok r
def Ii (s0_l:List Token)(s0_end:Int)(l:List Rule)(s2:Int):R (List Rule):=
 if(0:Int)≤1∧1≤(s0_l.length:Int) then
 (B3 (s0_l.drop 1) s0_end).bind fun r1=>
 (Fv r1 s2 ((s0_l.drop 1).drop 1) s0_end).bind fun r2=>
 (B7 [59] (((s0_l.drop 1).drop 1).drop 1) s0_end).bind fun _=>
 if(l.length+[r2].length) * 80≤D2 then
 .ok (l++[r2]) else .bad else .bad
def Ic (most:Int)(s0_l:List Token)(s0_end:Int)(l:List Rule)(s2:Int):R (List Rule):=
 if((l.length:Int)==most) then
((Bm 2 s0_l s0_end).bind fun _=>
 Ii s0_l s0_end l s2)
else
(Ii s0_l s0_end l s2)
def Kt (kind:Int)(s0_l:List Token)(s0_end:Int)(l:List Rule):R (List Rule):=
 (Ic 64 s0_l s0_end l kind).bind fun r=>
 .ok r
def H2 (s0_l:List Token)(s0_end:Int)(l:List Rule):R (List Rule):=
 (Kt 3 s0_l s0_end l).bind fun r=>
 .ok r
def Ex (s0_l:List Token)(s0_end:Int)(l:List Volume)(l1:List Sector)(l2:List Config)(l3:List Segment)(l4:List Route)(l5:List Airport)(l6:List Class)(l7:List Rule):R ((List Token)×(List Volume)×(List Sector)×(List Config)×(List Segment)×(List Route)×(List Airport)×(List Class)×(List Rule)):=
 (L7 ({ fL:=s0_l,fEnd:=s0_end,fA:=({ Volumes:=l,Sectors:=l1,Configs:=l2,Segments:=l3,Routes:=l4,Airports:=l5,Classes:=l6,Rules:=l7 }:Airspace) }:T67) 80).bind fun _=>
 .ok (s0_l,l,l1,l2,l3,l4,l5,l6,l7)
def Fo (s0_l:List Token)(s0_end:Int)(l:List Volume)(l1:List Sector)(l2:List Config)(l3:List Segment)(l4:List Route)(l5:List Airport)(l6:List Class)(l7:List Rule):R ((List Token)×(List Volume)×(List Sector)×(List Config)×(List Segment)×(List Route)×(List Airport)×(List Class)×(List Rule)):=
 (En s0_l 0).bind fun a=>
 if(a.Kind==1) then
(if(a.Text==[97,105,114,112,111,114,116]) then
((Ip s0_l s0_end l l5).bind fun r=>
 .ok (r.1,l,l1,l2,l3,l4,r.2,l6,l7))
else
(if(a.Text==[99,108,97,115,115]) then
((Il s0_l s0_end l6).bind fun r1=>
 .ok ((((((((((s0_l.drop 1).drop 1).drop 1).drop 1).drop 1).drop 1).drop 1).drop 1).drop 1),l,l1,l2,l3,l4,l5,r1,l7))
else
(if(a.Text==[99,111,110,102,105,103]) then
((Iw s0_l s0_end l l2).bind fun r2=>
 .ok (r2.1,l,l1,r2.2,l3,l4,l5,l6,l7))
else
(if(a.Text==[99,117,114,102,101,119]) then
((Ij s0_l s0_end l7).bind fun r3=>
 .ok (((((((((s0_l.drop 1).drop 1).drop 1).drop 1).drop 1).drop 1).drop 1).drop 1),l,l1,l2,l3,l4,l5,l6,r3))
else
(if(a.Text==[101,120,101,109,112,116]) then
((Ir s0_l s0_end l7).bind fun r4=>
 .ok ((((s0_l.drop 1).drop 1).drop 1),l,l1,l2,l3,l4,l5,l6,r4))
else
(if(a.Text==[108,111,110,103,101,115,116]) then
((H0 s0_l s0_end l7).bind fun r5=>
 .ok (((((s0_l.drop 1).drop 1).drop 1).drop 1),l,l1,l2,l3,l4,l5,l6,r5))
else
(if(a.Text==[114,111,117,116,101]) then
((Iv s0_l s0_end l l4).bind fun r6=>
 .ok (r6.1,l,l1,l2,l3,r6.2,l5,l6,l7))
else
(if(a.Text==[115,101,99,116,111,114]) then
((It s0_l s0_end l l1).bind fun r7=>
 .ok (r7.1,l,r7.2,l2,l3,l4,l5,l6,l7))
else
(if(a.Text==[115,101,103,109,101,110,116]) then
((Ik s0_l s0_end l l3).bind fun r8=>
 .ok (r8.1,l,l1,l2,r8.2,l4,l5,l6,l7))
else
(if(a.Text==[118,111,108,117,109,101]) then
((Im s0_l s0_end l).bind fun r9=>
 .ok (r9.1,r9.2,l1,l2,l3,l4,l5,l6,l7))
else
(if(a.Text==[119,101,105,103,104,116]) then
((H2 s0_l s0_end l7).bind fun r10=>
 .ok (((((s0_l.drop 1).drop 1).drop 1).drop 1),l,l1,l2,l3,l4,l5,l6,r10))
else
(Ex s0_l s0_end l l1 l2 l3 l4 l5 l6 l7))))))))))))
else
(Ex s0_l s0_end l l1 l2 l3 l4 l5 l6 l7)
def F8 (n:Int)(n2:Int):R (Int×Int):=
 .ok (n,n2)
def I7 (src:Au)(fL:List Token)(l:List Airport)(l1:List Class)(l2:List Config)(l3:List Rule)(l4:List Route)(l5:List Sector)(l6:List Segment)(l7:List Volume):R (((List Token)×(List Airport)×(List Class)×(List Config)×(List Rule)×(List Route)×(List Sector)×(List Segment)×(List Volume)) ⊕ ((List Token)×(List Airport)×(List Class)×(List Config)×(List Rule)×(List Route)×(List Sector)×(List Segment)×(List Volume))):=
 if(fL.length:Int) > 0 then
((Fo fL (src.length:Int) l7 l5 l2 l6 l4 l l1 l3).bind fun r1=>
 .ok (.inl (r1.1,r1.2.2.2.2.2.2.1,r1.2.2.2.2.2.2.2.1,r1.2.2.2.1,r1.2.2.2.2.2.2.2.2,r1.2.2.2.2.2.1,r1.2.2.1,r1.2.2.2.2.1,r1.2.1)))
else
(.ok (.inr ((fL,l,l1,l2,l3,l4,l5,l6,l7))))
def Pm (fL3:List Token)(l8:List Airport)(l9:List Class)(l10:List Config)(l11:List Rule)(l12:List Route)(l13:List Sector)(l14:List Segment)(l15:List Volume):R (Airspace×Int×Int):=
 .ok (({ Volumes:=l15,Sectors:=l13,Configs:=l10,Segments:=l14,Routes:=l12,Airports:=l8,Classes:=l9,Rules:=l11 }:Airspace),0,0)
def Qd (src:Au):R (Airspace×Int×Int):=
 ((Zl src).np).bind fun r=>
 if(r.2.2 != 0) then
(.ok (({ Volumes:=[],Sectors:=[],Configs:=[],Segments:=[],Routes:=[],Airports:=[],Classes:=[],Rules:=[] }:Airspace),r.2.1,r.2.2))
else
((loop (Zz fun fL l l1 l2 l3 l4 l5 l6 l7=>I7 src fL l l1 l2 l3 l4 l5 l6 l7) (r.1,[],[],[],[],[],[],[],[])).bind (Zz fun fL3 l8 l9 l10 l11 l12 l13 l14 l15=>Pm fL3 l8 l9 l10 l11 l12 l13 l14 l15))
def G5 (src:Au):R (Airspace×Int×Int):=
 (Qd src).catch' (Nr 64 .i64 .i64 (fun n n2=>(F8 n n2).bind fun p=>.ok (({ Volumes:=[],Sectors:=[],Configs:=[],Segments:=[],Routes:=[],Airports:=[],Classes:=[],Rules:=[] }:Airspace),p.1,p.2)) (fun _=>.bad))
def He (ok:Bool)(t:Token)(s0_bad:Bool)(l:List Token):R (List Token):=
 if(l.length+[t].length) * 40≤D2 then
 .ok (l++[t]) else .bad
def Cr (s:Au)(s0_bad:Bool)(l:List Token):R (Bool×(List Token)):=
 (Sj s).bind fun r=>
 (He r ({ Kind:=1,Text:=s,N:=0,At:=0 }:Token) s0_bad l).bind fun r1=>
 .ok ((s0_bad||(!r)),r1)
def Kv (a:Au)(fBad:Bool)(l2:List Token):R (Bool×(List Token)):=
 (He true ({ Kind:=1,Text:=a,N:=0,At:=0 }:Token) fBad l2).bind fun r=>
 .ok ((fBad||(!true)),r)
def Bz (l:List Au)(s0_bad:Bool)(l1:List Token):R (Bool×(List Token)):=
 (Mb (fun _ a=>C0 fun fBad l2=>Kv a fBad l2) 0 l (s0_bad,l1)).bind ((C0 fun fBad l2=>.ok (fBad,l2)))
def Kk (a:Au)(fBad:Bool)(l2:List Token):R (Bool×(List Token)):=
 (He true ({ Kind:=3,Text:=a,N:=0,At:=0 }:Token) fBad l2).bind fun r=>
 .ok ((fBad||(!true)),r)
def Ct (l:List Au)(s0_bad:Bool)(l1:List Token):R (Bool×(List Token)):=
 (Mb (fun _ a=>C0 fun fBad l2=>Kk a fBad l2) 0 l (s0_bad,l1)).bind ((C0 fun fBad l2=>.ok (fBad,l2)))
def C4 (n:Int)(least:Int)(most:Int)(s0_bad:Bool)(l:List Token):R (List Token):=
 (He ((decide (n≥least))&&(decide (n≤most))) ({ Kind:=2,Text:=[],N:=n,At:=0 }:Token) s0_bad l).bind fun r=>
 .ok r
def Jy (s:Span)(s0_bad:Bool)(l:List Token):R (Bool×(List Token)):=
 (C4 s.From 0 1439 s0_bad l).bind fun r=>
 (Bz [[116,111]] (s0_bad||(!((decide (s.From≥0))&&(decide (s.From≤1439))))) r).bind fun r1=>
 (C4 s.To (IntKind.wrap .i64 (s.From+1)) 1440 r1.1 r1.2).bind fun r2=>
 .ok ((r1.1||(!((decide (s.To≥(IntKind.wrap .i64 (s.From+1))))&&(decide (s.To≤1440))))),r2)
def Jo (a:Span)(fBad1:Bool)(l3:List Token):R (Bool×(List Token)):=
 (Jy a fBad1 l3).bind fun r1=>
 .ok (r1.1,r1.2)
def Jl (j:Nat)(a:Span)(fBad:Bool)(l2:List Token):R (Bool×(List Token)):=
 if(j:Int) > 0 then
((Ct [[44]] fBad l2).bind fun r=>
 Jo a r.1 r.2)
else
(Jo a fBad l2)
def K6 (l:List Span)(most:Int)(s0_bad:Bool)(l1:List Token):R (Bool×(List Token)):=
 (Mb (fun j a=>C0 fun fBad l2=>Jl j a fBad l2) 0 l (((s0_bad||((l.length:Int)==0))||(decide ((l.length:Int) > most))),l1)).bind ((C0 fun fBad l2=>.ok (fBad,l2)))
def J4 (text:Au)(l:List Span)(s0_bad:Bool)(l1:List Token):R (Bool×(List Token)):=
 if(l.length:Int) > 0 then
((Bz [text] s0_bad l1).bind fun r=>
 (K6 l 16 r.1 r.2).bind fun r1=>
 .ok (r1.1,r1.2))
else
(.ok (s0_bad,l1))
def N5 (a:Volume)(s1_bad:Bool)(l:List Token):R (Bool×(List Token)):=
 (Cr a.Name s1_bad l).bind fun r=>
 (J4 [99,108,111,115,101,100] a.Closed r.1 r.2).bind fun r1=>
 .ok (r1.1,r1.2)
def I5 (a:Volume)(fBad1:Bool)(l2:List Token):R (Bool×(List Token)):=
 (N5 a fBad1 l2).bind fun r1=>
 (Ct [[59]] r1.1 r1.2).bind fun r2=>
 .ok (r2.1,r2.2)
def Jb (text:Au)(a:Volume)(fBad:Bool)(l1:List Token):R (Bool×(List Token)):=
 if(text==[]) then
(I5 a fBad l1)
else
((Bz [text] fBad l1).bind fun r=>
 I5 a r.1 r.2)
def Ku (text:Au)(l:List Volume)(most:Int)(s0_bad:Bool):R (Bool×(List Token)):=
 (Mb (fun _ a=>C0 fun fBad l1=>Jb text a fBad l1) 0 l ((s0_bad||(decide ((l.length:Int) > most))),[])).bind ((C0 fun fBad l1=>.ok (fBad,l1)))
def I6 (a:Au)(fBad1:Bool)(l3:List Token):R (Bool×(List Token)):=
 (Cr a fBad1 l3).bind fun r1=>
 .ok (r1.1,r1.2)
def I9 (j:Nat)(a:Au)(fBad:Bool)(l2:List Token):R (Bool×(List Token)):=
 if(j:Int) > 0 then
((Ct [[44]] fBad l2).bind fun r=>
 I6 a r.1 r.2)
else
(I6 a fBad l2)
def Gf (l:List Au)(most:Int)(s0_bad:Bool)(l1:List Token):R (Bool×(List Token)):=
 (Mb (fun j a=>C0 fun fBad l2=>I9 j a fBad l2) 0 l (((s0_bad||((l.length:Int)==0))||(decide ((l.length:Int) > most))),l1)).bind ((C0 fun fBad l2=>.ok (fBad,l2)))
def N0 (a:Sector)(s1_bad:Bool)(l:List Token):R (Bool×(List Token)):=
 (Cr a.Name s1_bad l).bind fun r=>
 (Ct [[61]] r.1 r.2).bind fun r1=>
 (Gf a.Names 64 r1.1 r1.2).bind fun r2=>
 (Bz [[114,97,100,97,114]] r2.1 r2.2).bind fun r3=>
 (C4 a.Radar 0 64 r3.1 r3.2).bind fun r4=>
 (Bz [[112,114,111,99,101,100,117,114,97,108]] (r3.1||(!((decide (a.Radar≥0))&&(decide (a.Radar≤64))))) r4).bind fun r5=>
 (C4 a.Procedural 0 a.Radar r5.1 r5.2).bind fun r6=>
 .ok ((r5.1||(!((decide (a.Procedural≥0))&&(decide (a.Procedural≤a.Radar))))),r6)
def Ja (a:Sector)(fBad1:Bool)(l3:List Token):R (Bool×(List Token)):=
 (N0 a fBad1 l3).bind fun r1=>
 (Ct [[59]] r1.1 r1.2).bind fun r2=>
 .ok (r2.1,r2.2)
def I8 (text:Au)(a:Sector)(fBad:Bool)(l2:List Token):R (Bool×(List Token)):=
 if(text==[]) then
(Ja a fBad l2)
else
((Bz [text] fBad l2).bind fun r=>
 Ja a r.1 r.2)
def Ki (text:Au)(l:List Sector)(most:Int)(s0_bad:Bool)(l1:List Token):R (Bool×(List Token)):=
 (Mb (fun _ a=>C0 fun fBad l2=>I8 text a fBad l2) 0 l ((s0_bad||(decide ((l.length:Int) > most))),l1)).bind ((C0 fun fBad l2=>.ok (fBad,l2)))
def N1 (a:Config)(s1_bad:Bool)(l:List Token):R (Bool×(List Token)):=
 (Cr a.Name s1_bad l).bind fun r=>
 (Ct [[61]] r.1 r.2).bind fun r1=>
 (Gf a.Names 64 r1.1 r1.2).bind fun r2=>
 .ok (r2.1,r2.2)
def I1 (a:Config)(fBad1:Bool)(l3:List Token):R (Bool×(List Token)):=
 (N1 a fBad1 l3).bind fun r1=>
 (Ct [[59]] r1.1 r1.2).bind fun r2=>
 .ok (r2.1,r2.2)
def Je (text:Au)(a:Config)(fBad:Bool)(l2:List Token):R (Bool×(List Token)):=
 if(text==[]) then
(I1 a fBad l2)
else
((Bz [text] fBad l2).bind fun r=>
 I1 a r.1 r.2)
def Ks (text:Au)(l:List Config)(most:Int)(s0_bad:Bool)(l1:List Token):R (Bool×(List Token)):=
 (Mb (fun _ a=>C0 fun fBad l2=>Je text a fBad l2) 0 l ((s0_bad||(decide ((l.length:Int) > most))),l1)).bind ((C0 fun fBad l2=>.ok (fBad,l2)))
def Ny (a:Segment)(s1_bad:Bool)(l:List Token):R (Bool×(List Token)):=
 (Cr a.Name s1_bad l).bind fun r=>
 (Bz [[105,110]] r.1 r.2).bind fun r1=>
 (Cr a.In r1.1 r1.2).bind fun r2=>
 (Bz [[108,101,110,103,116,104]] r2.1 r2.2).bind fun r3=>
 (C4 a.Length 1 4096 r3.1 r3.2).bind fun r4=>
 (J4 [111,112,101,110] a.Open (r3.1||(!((decide (a.Length≥1))&&(decide (a.Length≤4096))))) r4).bind fun r5=>
 .ok (r5.1,r5.2)
def H9 (a:Segment)(fBad1:Bool)(l3:List Token):R (Bool×(List Token)):=
 (Ny a fBad1 l3).bind fun r1=>
 (Ct [[59]] r1.1 r1.2).bind fun r2=>
 .ok (r2.1,r2.2)
def Ie (text:Au)(a:Segment)(fBad:Bool)(l2:List Token):R (Bool×(List Token)):=
 if(text==[]) then
(H9 a fBad l2)
else
((Bz [text] fBad l2).bind fun r=>
 H9 a r.1 r.2)
def J6 (text:Au)(l:List Segment)(most:Int)(s0_bad:Bool)(l1:List Token):R (Bool×(List Token)):=
 (Mb (fun _ a=>C0 fun fBad l2=>Ie text a fBad l2) 0 l ((s0_bad||(decide ((l.length:Int) > most))),l1)).bind ((C0 fun fBad l2=>.ok (fBad,l2)))
def N4 (a:Route)(s1_bad:Bool)(l:List Token):R (Bool×(List Token)):=
 (Cr a.Name s1_bad l).bind fun r=>
 (Bz [[102,114,111,109]] r.1 r.2).bind fun r1=>
 (Cr a.A r1.1 r1.2).bind fun r2=>
 (Bz [[116,111]] r2.1 r2.2).bind fun r3=>
 (Cr a.B r3.1 r3.2).bind fun r4=>
 (Bz [[118,105,97]] r4.1 r4.2).bind fun r5=>
 (Gf a.Names 8 r5.1 r5.2).bind fun r6=>
 .ok (r6.1,r6.2)
def Jk (a:Route)(fBad1:Bool)(l3:List Token):R (Bool×(List Token)):=
 (N4 a fBad1 l3).bind fun r1=>
 (Ct [[59]] r1.1 r1.2).bind fun r2=>
 .ok (r2.1,r2.2)
def Jr (text:Au)(a:Route)(fBad:Bool)(l2:List Token):R (Bool×(List Token)):=
 if(text==[]) then
(Jk a fBad l2)
else
((Bz [text] fBad l2).bind fun r=>
 Jk a r.1 r.2)
def K9 (text:Au)(l:List Route)(most:Int)(s0_bad:Bool)(l1:List Token):R (Bool×(List Token)):=
 (Mb (fun _ a=>C0 fun fBad l2=>Jr text a fBad l2) 0 l ((s0_bad||(decide ((l.length:Int) > most))),l1)).bind ((C0 fun fBad l2=>.ok (fBad,l2)))
def Mt (m:Mode)(s1_bad:Bool)(l:List Token):R (Bool×(List Token)):=
 (Bz [[109,111,100,101]] s1_bad l).bind fun r=>
 (Cr m.Name r.1 r.2).bind fun r1=>
 (C4 m.Places 0 64 r1.1 r1.2).bind fun r2=>
 .ok ((r1.1||(!((decide (m.Places≥0))&&(decide (m.Places≤64))))),r2)
def La (a:Mode)(fBad1:Bool)(l3:List Token):R (Bool×(List Token)):=
 (Mt a fBad1 l3).bind fun r1=>
 .ok (r1.1,r1.2)
def Ld (j:Nat)(a:Mode)(fBad:Bool)(l2:List Token):R (Bool×(List Token)):=
 if(j:Int) > 0 then
((Ct [[44]] fBad l2).bind fun r=>
 La a r.1 r.2)
else
(La a fBad l2)
def Mv (l:List Mode)(most:Int)(s0_bad:Bool)(l1:List Token):R (Bool×(List Token)):=
 (Mb (fun j a=>C0 fun fBad l2=>Ld j a fBad l2) 0 l (((s0_bad||((l.length:Int)==0))||(decide ((l.length:Int) > most))),l1)).bind ((C0 fun fBad l2=>.ok (fBad,l2)))
def Oa (a:Airport)(s1_bad:Bool)(l:List Token):R (Bool×(List Token)):=
 (Cr a.Name s1_bad l).bind fun r=>
 (Mv a.Modes 16 r.1 r.2).bind fun r1=>
 .ok (r1.1,r1.2)
def Ia (a:Airport)(fBad1:Bool)(l3:List Token):R (Bool×(List Token)):=
 (Oa a fBad1 l3).bind fun r1=>
 (Ct [[59]] r1.1 r1.2).bind fun r2=>
 .ok (r2.1,r2.2)
def H6 (text:Au)(a:Airport)(fBad:Bool)(l2:List Token):R (Bool×(List Token)):=
 if(text==[]) then
(Ia a fBad l2)
else
((Bz [text] fBad l2).bind fun r=>
 Ia a r.1 r.2)
def J7 (text:Au)(l:List Airport)(most:Int)(s0_bad:Bool)(l1:List Token):R (Bool×(List Token)):=
 (Mb (fun _ a=>C0 fun fBad l2=>H6 text a fBad l2) 0 l ((s0_bad||(decide ((l.length:Int) > most))),l1)).bind ((C0 fun fBad l2=>.ok (fBad,l2)))
def N6 (a:Class)(s1_bad:Bool)(l:List Token):R (Bool×(List Token)):=
 (Cr a.Name s1_bad l).bind fun r=>
 (Bz [[115,108,111,119]] r.1 r.2).bind fun r1=>
 (C4 a.Slow 1 64 r1.1 r1.2).bind fun r2=>
 (Bz [[102,97,115,116]] (r1.1||(!((decide (a.Slow≥1))&&(decide (a.Slow≤64))))) r2).bind fun r3=>
 (C4 a.Fast a.Slow 64 r3.1 r3.2).bind fun r4=>
 (Bz [[112,108,97,99,101,115]] (r3.1||(!((decide (a.Fast≥a.Slow))&&(decide (a.Fast≤64))))) r4).bind fun r5=>
 (C4 a.Places 1 8 r5.1 r5.2).bind fun r6=>
 .ok ((r5.1||(!((decide (a.Places≥1))&&(decide (a.Places≤8))))),r6)
def Jj (a:Class)(fBad1:Bool)(l3:List Token):R (Bool×(List Token)):=
 (N6 a fBad1 l3).bind fun r1=>
 (Ct [[59]] r1.1 r1.2).bind fun r2=>
 .ok (r2.1,r2.2)
def Jq (text:Au)(a:Class)(fBad:Bool)(l2:List Token):R (Bool×(List Token)):=
 if(text==[]) then
(Jj a fBad l2)
else
((Bz [text] fBad l2).bind fun r=>
 Jj a r.1 r.2)
def K7 (text:Au)(l:List Class)(most:Int)(s0_bad:Bool)(l1:List Token):R (Bool×(List Token)):=
 (Mb (fun _ a=>C0 fun fBad l2=>Jq text a fBad l2) 0 l ((s0_bad||(decide ((l.length:Int) > most))),l1)).bind ((C0 fun fBad l2=>.ok (fBad,l2)))
def Ft (text:Au)(s1_bad:Bool)(l:List Token)(s3:Rule):R (Bool×(List Token)):=
 (Bz [text] s1_bad l).bind fun r=>
 (Cr s3.C r.1 r.2).bind fun r1=>
 .ok (r1.1,r1.2)
def E8 (b:Rule)(fBad:Bool)(l1:List Token)(o:Rule):R (Bool×(List Token)):=
 if fBad then
(.ok (true,l1))
else
(.ok ((!((b.Kind==o.Kind)&&((b.C==o.C)&&((b.A==o.A)&&((0==o.Class)&&((0==o.Airport)&&((b.N==o.N)&&((b.Hours.From==o.Hours.From)&&(b.Hours.To==o.Hours.To))))))))),l1))
def Mw (b:Rule)(s0_bad:Bool)(l:List Token):R (Bool×(List Token)):=
 if(b.Kind==1) then
((Ft [99,117,114,102,101,119] s0_bad l b).bind fun r=>
 (Bz [[97,116]] r.1 r.2).bind fun r1=>
 (Cr b.A r1.1 r1.2).bind fun r2=>
 (Jy b.Hours r2.1 r2.2).bind fun r3=>
 E8 b r3.1 r3.2 ({ Kind:=b.Kind,C:=b.C,A:=b.A,Class:=0,Airport:=0,N:=0,Hours:=b.Hours }:Rule))
else
(if(b.Kind==2) then
((Ft [101,120,101,109,112,116] s0_bad l b).bind fun r4=>
 E8 b r4.1 r4.2 ({ Kind:=b.Kind,C:=b.C,A:=[],Class:=0,Airport:=0,N:=0,Hours:=({ From:=0,To:=0 }:Span) }:Rule))
else
(if(b.Kind==3) then
((Ft [119,101,105,103,104,116] s0_bad l b).bind fun r5=>
 (C4 b.N 1 8 r5.1 r5.2).bind fun r6=>
 E8 b (r5.1||(!((decide (b.N≥1))&&(decide (b.N≤8))))) r6 ({ Kind:=b.Kind,C:=b.C,A:=[],Class:=0,Airport:=0,N:=b.N,Hours:=({ From:=0,To:=0 }:Span) }:Rule))
else
(if(b.Kind==4) then
((Ft [108,111,110,103,101,115,116] s0_bad l b).bind fun r7=>
 (C4 b.N 0 60 r7.1 r7.2).bind fun r8=>
 if(r7.1||(!((decide (b.N≥0))&&(decide (b.N≤60))))) then
(E8 b true r8 ({ Kind:=b.Kind,C:=b.C,A:=[],Class:=0,Airport:=0,N:=b.N,Hours:=({ From:=0,To:=0 }:Span) }:Rule))
else
(E8 b ((Int.tmod b.N 10) != 0) r8 ({ Kind:=b.Kind,C:=b.C,A:=[],Class:=0,Airport:=0,N:=b.N,Hours:=({ From:=0,To:=0 }:Span) }:Rule)))
else
(E8 b true l ({ Kind:=b.Kind,C:=b.C,A:=[],Class:=0,Airport:=0,N:=0,Hours:=({ From:=0,To:=0 }:Span) }:Rule)))))
def I4 (a:Rule)(fBad1:Bool)(l3:List Token):R (Bool×(List Token)):=
 (Mw a fBad1 l3).bind fun r1=>
 (Ct [[59]] r1.1 r1.2).bind fun r2=>
 .ok (r2.1,r2.2)
def Jc (text:Au)(a:Rule)(fBad:Bool)(l2:List Token):R (Bool×(List Token)):=
 if(text==[]) then
(I4 a fBad l2)
else
((Bz [text] fBad l2).bind fun r=>
 I4 a r.1 r.2)
def Km (text:Au)(l:List Rule)(most:Int)(s0_bad:Bool)(l1:List Token):R (Bool×(List Token)):=
 (Mb (fun _ a=>C0 fun fBad l2=>Jc text a fBad l2) 0 l ((s0_bad||(decide ((l.length:Int) > most))),l1)).bind ((C0 fun fBad l2=>.ok (fBad,l2)))
def strings_Join (l:List Au)(sep:Au):R Au:=if(Lib.join l sep).length≤140737488355328 then .ok (Lib.join l sep) else .bad
def Sx (j:Nat)(a:Token)(words:List Au):R ((List Au) ⊕ (Au×Int)):=
 (Q6 a).bind fun r=>
 if r then
(if(a.Kind==2) then
((strconv_Itoa a.N).bind fun r1=>
 (En words (j:Int)).bind fun a1=>
 .ok (.inl (words.set (j:Int).toNat r1)))
else
((En words (j:Int)).bind fun a2=>
 .ok (.inl (words.set (j:Int).toNat a.Text))))
else
(.ok (.inr (([],70))))
def Aaj (l:List Token):R (Au×Int):=
 if(0:Int)≤(l.length:Int)∧((l.length:Int):Int)≤(l.length:Int)∧(Int.toNat (l.length:Int)) * 16≤D2 then
 (each (fun j a=>fun words=>Sx j a words) 0 l (List.replicate (Int.toNat (l.length:Int)) [])).bind (Dp (fun words=>(strings_Join words [32]).bind fun src=>
 .ok (src,0)) (fun r=>.ok r)) else .bad
def Ps (a:Airspace):R (Au×Int):=
 (Ku [118,111,108,117,109,101] a.Volumes 64 false).bind fun r=>
 (Ki [115,101,99,116,111,114] a.Sectors 64 r.1 r.2).bind fun r1=>
 (Ks [99,111,110,102,105,103] a.Configs 32 r1.1 r1.2).bind fun r2=>
 (J6 [115,101,103,109,101,110,116] a.Segments 128 r2.1 r2.2).bind fun r3=>
 (K9 [114,111,117,116,101] a.Routes 64 r3.1 r3.2).bind fun r4=>
 (J7 [97,105,114,112,111,114,116] a.Airports 16 r4.1 r4.2).bind fun r5=>
 (K7 [99,108,97,115,115] a.Classes 8 r5.1 r5.2).bind fun r6=>
 (Km [] a.Rules 64 r6.1 r6.2).bind fun r7=>
 if r7.1 then
(.ok ([],80))
else
((Aaj r7.2).bind fun r8=>
 .ok (r8.1,r8.2))
def L1 (b:List Span)(j:Nat)(a1:Span):R (Unit ⊕ Bool):=
 (En b (j:Int)).bind fun a2=>
 if((a1.From==a2.From)&&(a1.To==a2.To)) then
(.ok (.inl ()))
else
(.ok (.inr (false)))
def Mg (a:List Span)(b:List Span):R Bool:=
 if((a.length:Int) != (b.length:Int)) then
(.ok false)
else
((each (fun j a1=>fun _=>L1 b j a1) 0 a ()).bind (Dp (fun _=>.ok true) (fun r=>.ok r)))
def Lw (b:List Au)(j:Nat)(a1:Au):R (Unit ⊕ Bool):=
 (En b (j:Int)).bind fun a2=>
 if(a1==a2) then
(.ok (.inl ()))
else
(.ok (.inr (false)))
def Ke (a:List Au)(b:List Au):R Bool:=
 if((a.length:Int) != (b.length:Int)) then
(.ok false)
else
((each (fun j a1=>fun _=>Lw b j a1) 0 a ()).bind (Dp (fun _=>.ok true) (fun r=>.ok r)))
def Mo (b:List Int)(j:Nat)(a1:Int):R (Unit ⊕ Bool):=
 (En b (j:Int)).bind fun a2=>
 if(a1 != a2) then
(.ok (.inr (false)))
else
(.ok (.inl ()))
def Hb (a:List Int)(b:List Int):R Bool:=
 if((a.length:Int) != (b.length:Int)) then
(.ok false)
else
((each (fun j a1=>fun _=>Mo b j a1) 0 a ()).bind (Dp (fun _=>.ok true) (fun r=>.ok r)))
def Pf (x1:Bool):R (Unit ⊕ Bool):=
 if x1 then
(.ok (.inr (false)))
else
(.ok (.inl ()))
def Pa (b:Airspace)(j:Nat)(a1:Volume):R (Unit ⊕ Bool):=
 (En b.Volumes (j:Int)).bind fun a2=>
 if(!(a1.Name==a2.Name)) then
(Pf true)
else
((Mg a1.Closed a2.Closed).bind fun r=>
 Pf (!r))
def Nh (b:Airspace)(j1:Nat)(a3:Sector):R (Unit ⊕ Bool):=
 (En b.Sectors (j1:Int)).bind fun a4=>
 (if(!(a3.Name==a4.Name)) then R.ok true else(Ke a3.Names a4.Names).bind fun r1=>
 R.ok (!r1)).bind (fun(b1:Bool)=>(if b1 then R.ok true else(Hb a3.Volumes a4.Volumes).bind fun r2=>
 R.ok (!r2)).bind (fun(b2:Bool)=>if((b2||(a3.Radar != a4.Radar))||(a3.Procedural != a4.Procedural)) then
(.ok (.inr (false)))
else
(.ok (.inl ()))))
def Ml (b:Airspace)(j2:Nat)(a5:Config):R (Unit ⊕ Bool):=
 (En b.Configs (j2:Int)).bind fun a6=>
 (if(!(a5.Name==a6.Name)) then R.ok true else(Ke a5.Names a6.Names).bind fun r3=>
 R.ok (!r3)).bind (fun(b3:Bool)=>(if b3 then R.ok true else(Hb a5.Sectors a6.Sectors).bind fun r4=>
 R.ok (!r4)).bind (fun(b4:Bool)=>if b4 then
(.ok (.inr (false)))
else
(.ok (.inl ()))))
def K0 (b:Airspace)(j3:Nat)(a7:Segment):R (Unit ⊕ Bool):=
 (En b.Segments (j3:Int)).bind fun a8=>
 (if((((!(a7.Name==a8.Name))||(!(a7.In==a8.In)))||(a7.Volume != a8.Volume))||(a7.Length != a8.Length)) then R.ok true else(Mg a7.Open a8.Open).bind fun r5=>
 R.ok (!r5)).bind (fun(b5:Bool)=>if b5 then
(.ok (.inr (false)))
else
(.ok (.inl ())))
def Jp (b:Airspace)(j4:Nat)(a9:Route):R (Unit ⊕ Bool):=
 (En b.Routes (j4:Int)).bind fun a10=>
 (if(((((!(a9.Name==a10.Name))||(!(a9.A==a10.A)))||(!(a9.B==a10.B)))||(a9.From != a10.From))||(a9.To != a10.To)) then R.ok true else(Ke a9.Names a10.Names).bind fun r6=>
 R.ok (!r6)).bind (fun(b6:Bool)=>(if b6 then R.ok true else(Hb a9.Segments a10.Segments).bind fun r7=>
 R.ok (!r7)).bind (fun(b7:Bool)=>if b7 then
(.ok (.inr (false)))
else
(.ok (.inl ()))))
def Pc (a12:Airport)(j6:Nat)(a13:Mode):R (Unit ⊕ Bool):=
 (En a12.Modes (j6:Int)).bind fun a14=>
 if((a13.Name==a14.Name)&&(a13.Places==a14.Places)) then
(.ok (.inl ()))
else
(.ok (.inr (false)))
def H4 (b:Airspace)(j5:Nat)(a11:Airport):R (Unit ⊕ Bool):=
 (En b.Airports (j5:Int)).bind fun a12=>
 if((!(a11.Name==a12.Name))||((a11.Modes.length:Int) != (a12.Modes.length:Int))) then
(.ok (.inr (false)))
else
((each (fun j6 a13=>fun _=>Pc a12 j6 a13) 0 a11.Modes ()).bind (Dp (fun _=>.ok (.inl ())) (fun r=>.ok (.inr (r)))))
def G3 (b:Airspace)(j7:Nat)(a15:Class):R (Unit ⊕ Bool):=
 (En b.Classes (j7:Int)).bind fun a16=>
 if((a15.Name==a16.Name)&&((a15.Slow==a16.Slow)&&((a15.Fast==a16.Fast)&&(a15.Places==a16.Places)))) then
(.ok (.inl ()))
else
(.ok (.inr (false)))
def Gc (b:Airspace)(j8:Nat)(a17:Rule):R (Unit ⊕ Bool):=
 (En b.Rules (j8:Int)).bind fun a18=>
 if((a17.Kind==a18.Kind)&&((a17.C==a18.C)&&((a17.A==a18.A)&&((a17.Class==a18.Class)&&((a17.Airport==a18.Airport)&&((a17.N==a18.N)&&((a17.Hours.From==a18.Hours.From)&&(a17.Hours.To==a18.Hours.To)))))))) then
(.ok (.inl ()))
else
(.ok (.inr (false)))
def O0 (a:Airspace)(b:Airspace):R Bool:=
 if(((((((((a.Volumes.length:Int) != (b.Volumes.length:Int))||((a.Sectors.length:Int) != (b.Sectors.length:Int)))||((a.Configs.length:Int) != (b.Configs.length:Int)))||((a.Segments.length:Int) != (b.Segments.length:Int)))||((a.Routes.length:Int) != (b.Routes.length:Int)))||((a.Airports.length:Int) != (b.Airports.length:Int)))||((a.Classes.length:Int) != (b.Classes.length:Int)))||((a.Rules.length:Int) != (b.Rules.length:Int))) then
(.ok false)
else
((each (fun j a1=>fun _=>Pa b j a1) 0 a.Volumes ()).bind (Dp (fun _=>(each (fun j1 a3=>fun _=>Nh b j1 a3) 0 a.Sectors ()).bind (Dp (fun _=>(each (fun j2 a5=>fun _=>Ml b j2 a5) 0 a.Configs ()).bind (Dp (fun _=>(each (fun j3 a7=>fun _=>K0 b j3 a7) 0 a.Segments ()).bind (Dp (fun _=>(each (fun j4 a9=>fun _=>Jp b j4 a9) 0 a.Routes ()).bind (Dp (fun _=>(each (fun j5 a11=>fun _=>H4 b j5 a11) 0 a.Airports ()).bind (Dp (fun _=>(each (fun j7 a15=>fun _=>G3 b j7 a15) 0 a.Classes ()).bind (Dp (fun _=>(each (fun j8 a17=>fun _=>Gc b j8 a17) 0 a.Rules ()).bind (Dp (fun _=>.ok true) (fun r=>.ok r))) (fun r=>.ok r))) (fun r=>.ok r))) (fun r=>.ok r))) (fun r=>.ok r))) (fun r=>.ok r))) (fun r=>.ok r))) (fun r=>.ok r)))
def Mr (s2:List Span)(j:Nat)(a:Span):R (Unit ⊕ Bool):=
 (En s2 (j:Int)).bind fun a1=>
 if((a.From==a1.From)&&(a.To==a1.To)) then
(.ok (.inl ()))
else
(.ok (.inr (false)))
def N2 (s1:List Span)(s2:List Span):R Bool:=
 if((s1.length:Int) != (s2.length:Int)) then
(.ok false)
else
((each (fun j a=>fun _=>Mr s2 j a) 0 s1 ()).bind (Dp (fun _=>.ok true) (fun r=>.ok r)))
def Sh (a:Volume)(y:Volume):R Bool:=
 (if(a.Name==y.Name) then(N2 a.Closed y.Closed).bind fun r=>
 R.ok r else R.ok false).bind (fun(b:Bool)=>.ok b)
def Du (s2:List Volume)(j:Nat)(a:Volume):R (Unit ⊕ Bool):=
 (En s2 (j:Int)).bind fun a1=>
 (Sh a a1).bind fun r=>
 if r then
(.ok (.inl ()))
else
(.ok (.inr (false)))
def Ey (s1:List Volume)(s2:List Volume):R Bool:=
 if((s1.length:Int) != (s2.length:Int)) then
(.ok false)
else
((each (fun j a=>fun _=>Du s2 j a) 0 s1 ()).bind (Dp (fun _=>.ok true) (fun r=>.ok r)))
def Lu (s2:List Au)(j:Nat)(a:Au):R (Unit ⊕ Bool):=
 (En s2 (j:Int)).bind fun a1=>
 if(a==a1) then
(.ok (.inl ()))
else
(.ok (.inr (false)))
def Lh (s1:List Au)(s2:List Au):R Bool:=
 if((s1.length:Int) != (s2.length:Int)) then
(.ok false)
else
((each (fun j a=>fun _=>Lu s2 j a) 0 s1 ()).bind (Dp (fun _=>.ok true) (fun r=>.ok r)))
def Nd (s2:List Int)(j:Nat)(a:Int):R (Unit ⊕ Bool):=
 (En s2 (j:Int)).bind fun a1=>
 if(a != a1) then
(.ok (.inr (false)))
else
(.ok (.inl ()))
def Hy (s1:List Int)(s2:List Int):R Bool:=
 if((s1.length:Int) != (s2.length:Int)) then
(.ok false)
else
((each (fun j a=>fun _=>Nd s2 j a) 0 s1 ()).bind (Dp (fun _=>.ok true) (fun r=>.ok r)))
def Sq (a:Sector)(y:Sector):R Bool:=
 (if(a.Name==y.Name) then(Lh a.Names y.Names).bind fun r=>
 R.ok r else R.ok false).bind (fun(b:Bool)=>(if b then(Hy a.Volumes y.Volumes).bind fun r1=>
 R.ok r1 else R.ok false).bind (fun(b1:Bool)=>.ok ((b1&&(a.Radar==y.Radar))&&(a.Procedural==y.Procedural))))
def Dv (s2:List Sector)(j:Nat)(a:Sector):R (Unit ⊕ Bool):=
 (En s2 (j:Int)).bind fun a1=>
 (Sq a a1).bind fun r=>
 if r then
(.ok (.inl ()))
else
(.ok (.inr (false)))
def E6 (s1:List Sector)(s2:List Sector):R Bool:=
 if((s1.length:Int) != (s2.length:Int)) then
(.ok false)
else
((each (fun j a=>fun _=>Dv s2 j a) 0 s1 ()).bind (Dp (fun _=>.ok true) (fun r=>.ok r)))
def Ss (a:Config)(y:Config):R Bool:=
 (if(a.Name==y.Name) then(Lh a.Names y.Names).bind fun r=>
 R.ok r else R.ok false).bind (fun(b:Bool)=>(if b then(Hy a.Sectors y.Sectors).bind fun r1=>
 R.ok r1 else R.ok false).bind (fun(b1:Bool)=>.ok b1))
def Dw (s2:List Config)(j:Nat)(a:Config):R (Unit ⊕ Bool):=
 (En s2 (j:Int)).bind fun a1=>
 (Ss a a1).bind fun r=>
 if r then
(.ok (.inl ()))
else
(.ok (.inr (false)))
def D5 (s1:List Config)(s2:List Config):R Bool:=
 if((s1.length:Int) != (s2.length:Int)) then
(.ok false)
else
((each (fun j a=>fun _=>Dw s2 j a) 0 s1 ()).bind (Dp (fun _=>.ok true) (fun r=>.ok r)))
def Sl (a:Segment)(y:Segment):R Bool:=
 (if((((a.Name==y.Name)&&(a.In==y.In))&&(a.Volume==y.Volume))&&(a.Length==y.Length)) then(N2 a.Open y.Open).bind fun r=>
 R.ok r else R.ok false).bind (fun(b:Bool)=>.ok b)
def Dj (s2:List Segment)(j:Nat)(a:Segment):R (Unit ⊕ Bool):=
 (En s2 (j:Int)).bind fun a1=>
 (Sl a a1).bind fun r=>
 if r then
(.ok (.inl ()))
else
(.ok (.inr (false)))
def C5 (s1:List Segment)(s2:List Segment):R Bool:=
 if((s1.length:Int) != (s2.length:Int)) then
(.ok false)
else
((each (fun j a=>fun _=>Dj s2 j a) 0 s1 ()).bind (Dp (fun _=>.ok true) (fun r=>.ok r)))
def Sa (a:Route)(y:Route):R Bool:=
 (if(((((a.Name==y.Name)&&(a.A==y.A))&&(a.B==y.B))&&(a.From==y.From))&&(a.To==y.To)) then(Lh a.Names y.Names).bind fun r=>
 R.ok r else R.ok false).bind (fun(b:Bool)=>(if b then(Hy a.Segments y.Segments).bind fun r1=>
 R.ok r1 else R.ok false).bind (fun(b1:Bool)=>.ok b1))
def D3 (s2:List Route)(j:Nat)(a:Route):R (Unit ⊕ Bool):=
 (En s2 (j:Int)).bind fun a1=>
 (Sa a a1).bind fun r=>
 if r then
(.ok (.inl ()))
else
(.ok (.inr (false)))
def Cx (s1:List Route)(s2:List Route):R Bool:=
 if((s1.length:Int) != (s2.length:Int)) then
(.ok false)
else
((each (fun j a=>fun _=>D3 s2 j a) 0 s1 ()).bind (Dp (fun _=>.ok true) (fun r=>.ok r)))
def My (s2:List Mode)(j:Nat)(a:Mode):R (Unit ⊕ Bool):=
 (En s2 (j:Int)).bind fun a1=>
 if((a.Name==a1.Name)&&(a.Places==a1.Places)) then
(.ok (.inl ()))
else
(.ok (.inr (false)))
def Qh (s1:List Mode)(s2:List Mode):R Bool:=
 if((s1.length:Int) != (s2.length:Int)) then
(.ok false)
else
((each (fun j a=>fun _=>My s2 j a) 0 s1 ()).bind (Dp (fun _=>.ok true) (fun r=>.ok r)))
def Sd (a:Airport)(y:Airport):R Bool:=
 (if(a.Name==y.Name) then(Qh a.Modes y.Modes).bind fun r=>
 R.ok r else R.ok false).bind (fun(b:Bool)=>.ok b)
def Di (s2:List Airport)(j:Nat)(a:Airport):R (Unit ⊕ Bool):=
 (En s2 (j:Int)).bind fun a1=>
 (Sd a a1).bind fun r=>
 if r then
(.ok (.inl ()))
else
(.ok (.inr (false)))
def Cd (s1:List Airport)(s2:List Airport):R Bool:=
 if((s1.length:Int) != (s2.length:Int)) then
(.ok false)
else
((each (fun j a=>fun _=>Di s2 j a) 0 s1 ()).bind (Dp (fun _=>.ok true) (fun r=>.ok r)))
def Mi (s2:List Class)(j:Nat)(a:Class):R (Unit ⊕ Bool):=
 (En s2 (j:Int)).bind fun a1=>
 if((a.Name==a1.Name)&&((a.Slow==a1.Slow)&&((a.Fast==a1.Fast)&&(a.Places==a1.Places)))) then
(.ok (.inl ()))
else
(.ok (.inr (false)))
def Gs (s1:List Class)(s2:List Class):R Bool:=
 if((s1.length:Int) != (s2.length:Int)) then
(.ok false)
else
((each (fun j a=>fun _=>Mi s2 j a) 0 s1 ()).bind (Dp (fun _=>.ok true) (fun r=>.ok r)))
def Ms (s2:List Rule)(j:Nat)(a:Rule):R (Unit ⊕ Bool):=
 (En s2 (j:Int)).bind fun a1=>
 if((a.Kind==a1.Kind)&&((a.C==a1.C)&&((a.A==a1.A)&&((a.Class==a1.Class)&&((a.Airport==a1.Airport)&&((a.N==a1.N)&&((a.Hours.From==a1.Hours.From)&&(a.Hours.To==a1.Hours.To)))))))) then
(.ok (.inl ()))
else
(.ok (.inr (false)))
def Ga (s1:List Rule)(s2:List Rule):R Bool:=
 if((s1.length:Int) != (s2.length:Int)) then
(.ok false)
else
((each (fun j a=>fun _=>Ms s2 j a) 0 s1 ()).bind (Dp (fun _=>.ok true) (fun r=>.ok r)))
def Nt (a:Airspace)(b:Airspace):R Bool:=
 (Ey a.Volumes b.Volumes).bind fun r=>
 (if r then(E6 a.Sectors b.Sectors).bind fun r1=>
 R.ok r1 else R.ok false).bind (fun(b1:Bool)=>(if b1 then(D5 a.Configs b.Configs).bind fun r2=>
 R.ok r2 else R.ok false).bind (fun(b2:Bool)=>(if b2 then(C5 a.Segments b.Segments).bind fun r3=>
 R.ok r3 else R.ok false).bind (fun(b3:Bool)=>(if b3 then(Cx a.Routes b.Routes).bind fun r4=>
 R.ok r4 else R.ok false).bind (fun(b4:Bool)=>(if b4 then(Cd a.Airports b.Airports).bind fun r5=>
 R.ok r5 else R.ok false).bind (fun(b5:Bool)=>(if b5 then(Gs a.Classes b.Classes).bind fun r6=>
 R.ok r6 else R.ok false).bind (fun(b6:Bool)=>(if b6 then(Ga a.Rules b.Rules).bind fun r7=>
 R.ok r7 else R.ok false).bind (fun(b7:Bool)=>.ok b7)))))))
def Rw:R Bool:=
 (G5 []).bind fun r=>
 (G5 [118,111,108,117,109,101,32,97,32,99,108,111,115,101,100,32,54,48,32,116,111,32,54,48,59]).bind fun r1=>
 (G5 [101,120,101,109,112,116,32,104,101,97,118,121]).bind fun r2=>
 (G5 [108,111,110,103,101,115,116,32,104,101,97,118,121,32,51,53,59]).bind fun r3=>
 (Ps ({ Volumes:=[],Sectors:=[],Configs:=[],Segments:=[],Routes:=[],Airports:=[({ Name:=[120],Modes:=[] }:Airport)],Classes:=[],Rules:=[] }:Airspace)).bind fun r4=>
 (Ps ({ Volumes:=[({ Name:=[97],Closed:=[] }:Volume)],Sectors:=[],Configs:=[],Segments:=[],Routes:=[],Airports:=[],Classes:=[],Rules:=[] }:Airspace)).bind fun r5=>
 (G5 [99,117,114,102,101,119,32,104,101,97,118,121,32,97,116,32,120,32,48,32,116,111,32,51,48,48,59,32,115,101,99,116,111,114,32,115,32,61,32,97,44,32,98,32,114,97,100,97,114,32,57,32,112,114,111,99,101,100,117,114,97,108,32,52,59]).bind fun r6=>
 (Ps ({ Volumes:=[],Sectors:=[({ Name:=[115],Names:=[[97],[98]],Volumes:=[0,1],Radar:=9,Procedural:=4 }:Sector)],Configs:=[],Segments:=[],Routes:=[],Airports:=[],Classes:=[],Rules:=[({ Kind:=1,C:=[104,101,97,118,121],A:=[120],Class:=0,Airport:=0,N:=0,Hours:=({ From:=0,To:=300 }:Span) }:Rule)] }:Airspace)).bind fun r7=>
 if(((((((((((((r.2.2 != 0)||(r1.2.2 != 80))||(r2.2.2 != 80))||(r3.2.2 != 80))||(r4.2 != 80))||(r5.2 != 0))||(r6.2.2 != 0))||(r7.2 != 0))||(r.2.1 != 0))||(r1.2.1 != 22))||(r2.2.1 != 12))||(r3.2.1 != 14))||(r6.2.1 != 0)) then
(.ok false)
else
((O0 r.1 ({ Volumes:=[],Sectors:=[],Configs:=[],Segments:=[],Routes:=[],Airports:=[],Classes:=[],Rules:=[] }:Airspace)).bind fun r8=>
 (if(r8&&(r5.1==[118,111,108,117,109,101,32,97,32,59])) then(O0 r6.1 ({ Volumes:=[],Sectors:=[({ Name:=[115],Names:=[[97],[98]],Volumes:=[],Radar:=9,Procedural:=4 }:Sector)],Configs:=[],Segments:=[],Routes:=[],Airports:=[],Classes:=[],Rules:=[({ Kind:=1,C:=[104,101,97,118,121],A:=[120],Class:=0,Airport:=0,N:=0,Hours:=({ From:=0,To:=300 }:Span) }:Rule)] }:Airspace)).bind fun r9=>
 R.ok r9 else R.ok false).bind (fun(b:Bool)=>(if(b&&(r7.1==[115,101,99,116,111,114,32,115,32,61,32,97,32,44,32,98,32,114,97,100,97,114,32,57,32,112,114,111,99,101,100,117,114,97,108,32,52,32,59,32,99,117,114,102,101,119,32,104,101,97,118,121,32,97,116,32,120,32,48,32,116,111,32,51,48,48,32,59])) then(Nt r6.1 ({ Volumes:=[],Sectors:=[({ Name:=[115],Names:=[[97],[98]],Volumes:=[],Radar:=9,Procedural:=4 }:Sector)],Configs:=[],Segments:=[],Routes:=[],Airports:=[],Classes:=[],Rules:=[({ Kind:=1,C:=[104,101,97,118,121],A:=[120],Class:=0,Airport:=0,N:=0,Hours:=({ From:=0,To:=300 }:Span) }:Rule)] }:Airspace)).bind fun r10=>
 R.ok r10 else R.ok false).bind (fun(b1:Bool)=>(if b1 then(Nt r6.1 ({ Volumes:=[],Sectors:=[({ Name:=[115],Names:=[[97],[98]],Volumes:=[0,1],Radar:=9,Procedural:=4 }:Sector)],Configs:=[],Segments:=[],Routes:=[],Airports:=[],Classes:=[],Rules:=[({ Kind:=1,C:=[104,101,97,118,121],A:=[120],Class:=0,Airport:=0,N:=0,Hours:=({ From:=0,To:=300 }:Span) }:Rule)] }:Airspace)).bind fun r11=>
 R.ok (!r11) else R.ok false).bind (fun(b2:Bool)=>.ok b2))))
def Rj (a:Airspace)(b:Airspace):R Bool:=
 .ok ((((((((decide ((IntKind.wrap .i64 ((a.Volumes.length:Int)+(b.Volumes.length:Int)))≤64))&&(decide ((IntKind.wrap .i64 ((a.Sectors.length:Int)+(b.Sectors.length:Int)))≤64)))&&(decide ((IntKind.wrap .i64 ((a.Configs.length:Int)+(b.Configs.length:Int)))≤32)))&&(decide ((IntKind.wrap .i64 ((a.Segments.length:Int)+(b.Segments.length:Int)))≤128)))&&(decide ((IntKind.wrap .i64 ((a.Routes.length:Int)+(b.Routes.length:Int)))≤64)))&&(decide ((IntKind.wrap .i64 ((a.Airports.length:Int)+(b.Airports.length:Int)))≤16)))&&(decide ((IntKind.wrap .i64 ((a.Classes.length:Int)+(b.Classes.length:Int)))≤8)))&&(decide ((IntKind.wrap .i64 ((a.Rules.length:Int)+(b.Rules.length:Int)))≤64)))
def N9 (a:Au)(b:Au):R Bool:=
 (Rw).bind fun r=>
 if r then
(if(IntKind.wrap .i64 ((a.length:Int)+(b.length:Int))) > 4000 then
(.ok true)
else
((G5 a).bind fun r1=>
 (G5 b).bind fun r2=>
 if a.length+[10].length≤9223372036854775807 then if(a++[10]).length+b.length≤9223372036854775807 then(G5 ((a++[10])++b)).bind fun r3=>
 if((r1.2.2 != 0)||(r2.2.2 != 0)) then
(.ok true)
else
((Rj r1.1 r2.1).bind fun r4=>
 if r4 then
(if r1.1.Volumes.length * 40≤D2 then
 if(r1.1.Volumes.length+r2.1.Volumes.length) * 40≤D2 then
 if r1.1.Sectors.length * 80≤D2 then
 if(r1.1.Sectors.length+r2.1.Sectors.length) * 80≤D2 then
 if r1.1.Configs.length * 64≤D2 then
 if(r1.1.Configs.length+r2.1.Configs.length) * 64≤D2 then
 if r1.1.Segments.length * 72≤D2 then
 if(r1.1.Segments.length+r2.1.Segments.length) * 72≤D2 then
 if r1.1.Routes.length * 112≤D2 then
 if(r1.1.Routes.length+r2.1.Routes.length) * 112≤D2 then
 if r1.1.Airports.length * 40≤D2 then
 if(r1.1.Airports.length+r2.1.Airports.length) * 40≤D2 then
 if r1.1.Classes.length * 40≤D2 then
 if(r1.1.Classes.length+r2.1.Classes.length) * 40≤D2 then
 if r1.1.Rules.length * 80≤D2 then
 if(r1.1.Rules.length+r2.1.Rules.length) * 80≤D2 then
 (if((r3.2.2==0)&&(r3.2.1==0)) then(O0 r3.1 ({ Volumes:=(r1.1.Volumes++r2.1.Volumes),Sectors:=(r1.1.Sectors++r2.1.Sectors),Configs:=(r1.1.Configs++r2.1.Configs),Segments:=(r1.1.Segments++r2.1.Segments),Routes:=(r1.1.Routes++r2.1.Routes),Airports:=(r1.1.Airports++r2.1.Airports),Classes:=(r1.1.Classes++r2.1.Classes),Rules:=(r1.1.Rules++r2.1.Rules) }:Airspace)).bind fun r5=>
 R.ok r5 else R.ok false).bind (fun(b1:Bool)=>.ok b1) else .bad else .bad else .bad else .bad else .bad else .bad else .bad else .bad else .bad else .bad else .bad else .bad else .bad else .bad else .bad else .bad)
else
(.ok ((r3.2.2==2)&&(decide (r3.2.1 > (a.length:Int)))))) else .bad else .bad))
else
(.ok false)
end
end Go.Am
namespace Go.Am
open Go
set_option linter.unusedVariables false
def Nl:Prop := ∀ (a0:Au) (a1:Au) (_:V9.good a0) (_:V9.good a1),V9.bulk a0+(V9.bulk a1)≤1048576→N9 a0 a1=.ok true
end Go.Am
namespace Go.Am
open Go
set_option linter.unusedVariables false
set_option linter.unusedSimpArgs false
def Nw (c:UInt8):Bool:=c==32||c==9||c==10||c==13
def Sw (c:UInt8):Bool:=(decide (97≤c)&&decide (c≤122))||(decide (65≤c)&&decide (c≤90))
def F0 (c:UInt8):Bool:=decide (48≤c)&&decide (c≤57)
def Iq (c:UInt8):Bool:=Sw c||F0 c||c==95
def Vf (c:UInt8):Bool:=[(123:UInt8),125,40,41,59,44,61,35,47,60,33,45,46].contains c
def Ht (c:UInt8):Int:=if Sw c then 2 else if F0 c then 3 else if c==95 then 5 else if Nw c then 1 else if Vf c then 4 else 0
theorem Ti {p:UInt8→Prop}(h : ∀ n:Fin 256,p (UInt8.ofNat n.val))(c:UInt8):p c:=by
 have h1:=h ⟨c.toNat,c.toNat_lt⟩
 have e:UInt8.ofNat c.toNat=c:=by simp
 simpa [e] using h1
theorem Zg (c:UInt8):Kz (c.toNat:Int)=.ok (Ht c):=Ti (p:=fun c=>Kz (c.toNat:Int)=.ok (Ht c)) (by decide +kernel) c
theorem Aj8 (c:UInt8):(Ht c==1)=Nw c:=Ti (p:=fun c=>(Ht c==1)=Nw c) (by decide +kernel) c
theorem Ahd (c:UInt8):(Ht c==2)=Sw c:=Ti (p:=fun c=>(Ht c==2)=Sw c) (by decide +kernel) c
theorem Akb (c:UInt8):(Ht c==3)=F0 c:=Ti (p:=fun c=>(Ht c==3)=F0 c) (by decide +kernel) c
theorem Akr (c:UInt8):(Ht c==4)=Vf c:=Ti (p:=fun c=>(Ht c==4)=Vf c) (by decide +kernel) c
theorem Aod (c:UInt8):(Ht c==2||Ht c==3||Ht c==5)=Iq c:=Ti (p:=fun c=>(Ht c==2||Ht c==3||Ht c==5)=Iq c) (by decide +kernel) c
theorem Apo (c:UInt8):Ht c=0∨Ht c=1∨Ht c=2∨Ht c=3∨Ht c=4∨Ht c=5:=Ti (p:=fun c=>Ht c=0∨Ht c=1∨Ht c=2∨Ht c=3∨Ht c=4∨Ht c=5) (by decide +kernel) c
theorem Adh {c:UInt8}(h:Sw c=true):Iq c=true:=by simp [Iq,h]
theorem An2 {c:UInt8}(h:Nw c=true):Iq c=false∧F0 c=false∧c≠47:=by
 revert h; exact Ti (p:=fun c=>Nw c=true→Iq c=false∧F0 c=false∧c≠47) (by decide +kernel) c
theorem Agt {src:Au}{q:UInt8→Bool}{body:Int→R (Int ⊕ Int)}(hb : ∀ n:Nat,n≤src.length→body (n:Int)=match src[n]? with | some c=>if q c then .ok (.inl ((n+1:Nat):Int)) else .ok (.inr (n:Int)) | none=>.ok (.inr (n:Int))) :
  ∀ (k p:Nat),p≤src.length→src.length - p=k→loop body (p:Int)=.ok (((p+((src.drop p).takeWhile q).length:Nat)):Int)
 | k,p,hp,hk=>by
  rw [R9,hb p hp]
  by_cases hl:p<src.length
  ·have e:src.drop p=src[p]::src.drop (p+1):=List.drop_eq_getElem_cons hl
   rw [List.getElem?_eq_getElem hl,e,List.takeWhile_cons]
   simp only
   cases hq:q src[p]
   ·simp
   ·simp only [if_true,R.ok_bind]
    cases k with
    | zero=>omega
    | succ k=>
     rw [Agt hb k (p+1) hl (by omega)]
     simp only [List.length_cons]
     congr 2
     omega
  ·have e:src[p]? = none:=List.getElem?_eq_none (by omega)
   have e2:src.drop p=[]:=List.drop_eq_nil_of_le (by omega)
   rw [e,e2]; simp
theorem Afv {α:Type}(q:α→Bool) : ∀ l:List α,l.take (l.takeWhile q).length=l.takeWhile q
 | []=>rfl
 | a::l=>by
  rw [List.takeWhile_cons]
  cases q a
  ·rfl
  ·simp [Afv q l]
theorem Ry {α:Type}(q:α→Bool) : ∀ l:List α,(l.takeWhile q).length≤l.length
 | []=>Nat.le_refl _
 | a::l=>by
  rw [List.takeWhile_cons]
  cases q a
  ·simp
  ·simpa using Ry q l
theorem Aob {src:Au}{p:Nat}(q:UInt8→Bool):cut src (p:Int) ((p+((src.drop p).takeWhile q).length:Nat):Int)=(src.drop p).takeWhile q:=by
 unfold cut
 simp only [Int.toNat_natCast]
 rw [show p+((src.drop p).takeWhile q).length - p=((src.drop p).takeWhile q).length by omega,Afv]
theorem Ago {src:Au}{n:Nat}{c:UInt8}(h:src[n]? = some c):En src (n:Int)=.ok c:=Agg h
theorem Acj (v:Int) : ∀ (l:List Int) (k:Nat),∃ j:Nat,each (fun j a=>fun _=>F9 v j a) k l ()=.ok (if l.contains v then .inr (j:Int) else .inl ())
 | [],k=>⟨0,rfl⟩
 | a::l,k=>by
  rw [Vy]
  by_cases h:v=a
  ·subst h; exact⟨k,by simp [F9]⟩
  ·have h1:(v==a)=false:=by simpa using h
   obtain⟨j,hj⟩:=Acj v l (k+1)
   refine⟨j,?_⟩
   rw [show F9 v k a=.ok (.inl ()) by unfold F9; rw [h1]; rfl,R.ok_bind,List.contains_cons,h1]
   exact hj
theorem Adx (l:List Int)(v:Int):Lf l v=.ok (l.contains v):=by
 unfold Lf O2
 obtain⟨j,hj⟩:=Acj v l 0
 rw [hj]
 cases h:l.contains v
 ·simp only [Bool.false_eq_true,if_false,R.ok_bind]; rfl
 ·simp only [if_true,R.ok_bind]
  simp
theorem Aoc (src:Au)(p:Nat)(l:List Token)(some:List Int)(hp:p≤src.length)(hs:src.length≤65536) :
  Jd ({ fSrc:=src,fAt:=p,fL:=l }:T119) some=.ok ((src.drop p).takeWhile fun c=>some.contains (Ht c)):=by
 unfold Jd
 rw [Agt (src:=src) (q:=fun c=>some.contains (Ht c)) (k:=src.length - p) (p:=p) (fun n hn=>?_) hp rfl]
 ·simp only [R.ok_bind]
  unfold L4
  have hle:=Ry (fun c=>some.contains (Ht c)) (src.drop p)
  rw [List.length_drop] at hle
  dsimp only
  rw [if_pos ⟨by omega,by omega,by omega⟩]
  simp only [Aob]
 ·unfold L8
  by_cases hl:n<src.length
  ·have hi:(n:Int)<src.length:=by omega
   rw [List.getElem?_eq_getElem hl]
   simp only [hi,decide_true,if_true]
   rw [Ago (List.getElem?_eq_getElem hl)]
   simp only [R.ok_bind,Zg,Adx]
   cases some.contains (Ht src[n])
   ·rfl
   ·simp only [if_true]
    rw [Oi (by omega) (by omega)]
    rfl
  ·have hi:¬ ((n:Int)<src.length):=by omega
   rw [List.getElem?_eq_none (by omega)]
   simp only [hi,decide_false,Bool.false_eq_true,if_false,R.ok_bind]
def Wc (s:Au):Bool:=match s with | []=>false | c::w=>Sw c&&w.all Iq&&decide (w.length+1≤32)
theorem Ach {α:Type}{b:Nat→α→Unit→R (Unit ⊕ Bool)}{p:α→Bool}(hb : ∀ j a,b j a ()=if p a then .ok (.inl ()) else .ok (.inr false)) : ∀ (l:List α) (k:Nat),each b k l ()=.ok (if l.all p then .inl () else .inr false)
 | [],k=>rfl
 | a::l,k=>by
  rw [Vy,hb]
  cases h:p a
  ·simp [h]
  ·simp [h,Ach hb l (k+1)]
theorem Aj7 (c:UInt8):(((Ht c != 2)&&(Ht c != 3))&&(Ht c != 5)) = !Iq c:=by
 rw [← Aod]; simp [bne,Bool.not_or]
theorem Amv (s:Au):Sj s=.ok (Wc s):=by
 unfold Sj Wc
 cases s with
 | nil=>rfl
 | cons c w=>
  simp only [show((c::w:Au)==[])=false from rfl,Bool.false_or]
  by_cases h:w.length+1≤32
  ·have h1:¬ (((c::w).length:Int) > 32):=by simp only [List.length_cons]; omega
   have h2:(c::w).length≤D2:=by simp only [List.length_cons,D2]; omega
   simp only [h1,decide_false,Bool.false_eq_true,if_false,Ale,R.ok_bind,Zg,h2,if_true,h,decide_true,Bool.and_true]
   cases hc:Sw c
   ·rw [show(Ht c != 2)=true by rw [bne,Ahd,hc]; rfl]; simp
   ·rw [show(Ht c != 2)=false by rw [bne,Ahd,hc]; rfl]
    simp only [Bool.false_eq_true,if_false,Bool.true_and]
    rw [Ach (p:=Iq) (fun j a=>by unfold Pk; simp only [Zg,R.ok_bind,Aj7]; cases Iq a <;> rfl)]
    simp only [R.ok_bind,List.all_cons,Adh hc,Bool.true_and]
    cases w.all Iq <;> rfl
  ·have h1:((c::w).length:Int) > 32:=by simp only [List.length_cons]; omega
   simp only [h1,decide_true,if_true,R.ok_bind,h,decide_false,Bool.and_false]
end Go.Am
namespace Go.Am
open Go
set_option linter.unusedVariables false
set_option linter.unusedSimpArgs false
def Re (a:Nat)(s:Au):Nat:=s.foldl (fun a c=>a * 10+(c.toNat - 48)) a
theorem W8 (a:Nat):Re a []=a:=rfl
theorem Mz (a:Nat)(c:UInt8)(s:Au):Re a (c::s)=Re (a * 10+(c.toNat - 48)) s:=by unfold Re; rw [List.foldl_cons]
theorem Aai : ∀ (s t:Au) (a:Nat),Re a (s++t)=Re (Re a s) t
 | [],t,a=>rfl
 | c::s,t,a=>by rw [List.cons_append,Mz,Mz,Aai s t]
theorem Abl : ∀ (s:Au) (a:Nat),a≤Re a s
 | [],a=>Nat.le_refl _
 | c::s,a=>by
  have:=Abl s (a * 10+(c.toNat - 48))
  rw [Mz]; omega
def val (s:Au):Nat:=Re 0 s
def Ul (s:Au):Bool:=decide (s.length=1)||decide (s.head? ≠ some 48)
def Vw (s:Au):Bool:=Ul s&&decide (val s≤1099511627776)
theorem Sr {c:UInt8}:F0 c=true↔48≤c.toNat∧c.toNat≤57:=by
 unfold F0
 simp only [Bool.and_eq_true,decide_eq_true_eq,UInt8.le_iff_toNat_le]
 rfl
theorem Ah5 (n:Nat)(h:n<10):F0 (UInt8.ofNat (48+n))=true∧(UInt8.ofNat (48+n)).toNat=48+n:=by
 have e:(UInt8.ofNat (48+n)).toNat=48+n:=by rw [UInt8.toNat_ofNat']; omega
 exact⟨Sr.2 (by omega),e⟩
theorem Aen {c:UInt8}(h:F0 c=true):UInt8.ofNat (48+(c.toNat - 48))=c:=by
 have:=Sr.1 h
 rw [show 48+(c.toNat - 48)=c.toNat by omega]; simp
theorem Aml (u:Nat):(Lib.decDigits u).all F0=true∧val (Lib.decDigits u)=u∧Lib.decDigits u≠[]∧Ul (Lib.decDigits u)=true∧(1≤u→(Lib.decDigits u).head? ≠ some 48):=by
 induction u using Nat.strongRecOn with
 | _ u ih=>
  by_cases h:u<10
  ·rw [Lib.decDigits_one h]
   obtain⟨h1,h2⟩:=Ah5 u h
   refine⟨by rw [List.all_cons,h1]; rfl,by unfold val; rw [Mz,W8,h2]; omega,by simp,by simp [Ul],fun hu e=>?_⟩
   simp only [List.head?_cons,Option.some.injEq] at e
   rw [e] at h2
   have:(48:UInt8).toNat=48:=rfl
   omega
  ·rw [Lib.decDigits,dif_neg h]
   obtain⟨a1,a2,a3,a4,a5⟩:=ih (u / 10) (by omega)
   obtain⟨h1,h2⟩:=Ah5 (u % 10) (by omega)
   have hd:(Lib.decDigits (u / 10)++[UInt8.ofNat (48+u % 10)]).head? = (Lib.decDigits (u / 10)).head? := by
    cases hq:Lib.decDigits (u / 10) with
    | nil=>exact absurd hq a3
    | cons c w=>rfl
   refine⟨by rw [List.all_append,a1,List.all_cons,h1]; rfl,?_,by simp,?_,fun hu=>by rw [hd]; exact a5 (by omega)⟩
   ·unfold val at a2 ⊢
    rw [Aai,a2,Mz,W8,h2]; omega
   ·have:=a5 (by omega)
    unfold Ul
    rw [hd]
    simp [this]
theorem Anw : ∀ (s:Au),s≠[]→s.all F0=true→Ul s=true→Lib.decDigits (val s)=s:=by
 suffices H : ∀ (n:Nat) (s:Au),s.length=n→s≠[]→s.all F0=true→Ul s=true→Lib.decDigits (val s)=s from fun s=>H _ s rfl
 intro n
 induction n with
 | zero=>intro s h1 h2; exact absurd (List.length_eq_zero_iff.1 h1) h2
 | succ n ih=>
  intro s h1 h2 h3 h4
  obtain⟨w,c,rfl⟩ : ∃ w c,s=w++[c]:=⟨s.dropLast,s.getLast h2,(List.dropLast_concat_getLast h2).symm⟩
  rw [List.all_append,Bool.and_eq_true] at h3
  obtain⟨h3,h5⟩:=h3
  have h5:F0 c=true:=by simpa using h5
  have hc:=Sr.1 h5
  have hv:val (w++[c])=val w * 10+(c.toNat - 48):=by unfold val; rw [Aai,Mz,W8]
  by_cases hw:w=[]
  ·subst hw
   have h0:val []=0:=rfl
   rw [hv,h0,Lib.decDigits_one (by omega)]
   simp only [Nat.zero_mul,Nat.zero_add,List.nil_append]
   rw [Aen h5]
  ·obtain⟨d,w',rfl⟩ : ∃ d w',w=d::w':=by cases w with | nil=>exact absurd rfl hw | cons d w'=>exact⟨d,w',rfl⟩
   have hp:d≠48:=by
    intro e; subst e
    simp [Ul] at h4
   have hd:F0 d=true:=by simp at h3; exact h3.1
   have hd':=Sr.1 hd
   have h1v:1≤val (d::w'):=by
    have:=Abl w' (0 * 10+(d.toNat - 48))
    have h6:d.toNat≠48:=fun e=>hp (UInt8.toNat_inj.1 (by rw [e]; rfl))
    unfold val
    rw [Mz]
    omega
   have e0:Re 0 (d::w')=val (d::w'):=rfl
   rw [hv,Lib.decDigits,dif_neg (by omega)]
   have e1:(val (d::w') * 10+(c.toNat - 48)) / 10=val (d::w'):=by omega
   have e2:(val (d::w') * 10+(c.toNat - 48)) % 10=c.toNat - 48:=by omega
   rw [e1,e2,Aen h5,ih (d::w') (by simpa using h1) hw h3 (by simp [Ul,hp])]
theorem Aej : ∀ (s:Au) (a:Nat),s.all F0=true→Re a s<18446744073709551616→Lib.parseUint10 a s=.ok (Re a s)
 | [],a,_,_=>rfl
 | c::s,a,h,hv=>by
  have h:F0 c=true∧s.all F0=true:=by simpa using h
  have hc:=Sr.1 h.1
  have hv':Re (a * 10+(c.toNat - 48)) s<18446744073709551616:=by rw [← Mz]; exact hv
  have:=Abl s (a * 10+(c.toNat - 48))
  rw [Lib.parseUint10,if_pos hc,if_neg (by omega),if_neg (by omega),Aej s _ h.2 hv',Mz]
theorem Ab7 : ∀ (s:Au) (a:Nat),a<18446744073709551616→s.all F0=true→18446744073709551616≤Re a s→Lib.parseUint10 a s=.range
 | [],a,ha,_,hv=>by exfalso; rw [W8] at hv; omega
 | c::s,a,ha,h,hv=>by
  have h:F0 c=true∧s.all F0=true:=by simpa using h
  have hc:=Sr.1 h.1
  rw [Lib.parseUint10,if_pos hc]
  split
  ·rfl
  ·split
   ·rfl
   ·exact Ab7 s _ (by omega) h.2 (by rw [← Mz]; exact hv)
theorem Ajx {s:Au}(hs:s≠[])(h:s.all F0=true):Lib.atoiAll s=if 9223372036854775808≤val s then .range else .ok (val s:Int):=by
 cases s with
 | nil=>exact absurd rfl hs
 | cons c s=>
  have hc:F0 c=true:=by simp at h; exact h.1
  have hc:=Sr.1 hc
  rw [Lib.atoiAll_plain c s (by omega) (by omega),Lib.parseMag,if_neg (by simp)]
  by_cases hv:val (c::s)<18446744073709551616
  ·rw [Aej _ _ h hv]; rfl
  ·rw [Ab7 _ _ (by omega) h (Nat.le_of_not_lt hv),if_pos (by omega)]; rfl
end Go.Am
namespace Go.Am
open Go
set_option linter.unusedVariables false
set_option linter.unusedSimpArgs false
def tk (c:UInt8)(s:Au):Option (Option Token×Nat):=
 if Nw c then some (none,0)
 else if Sw c then
  if(s.takeWhile Iq).length+1≤32 then some (some ⟨1,c::s.takeWhile Iq,0,0⟩,(s.takeWhile Iq).length) else none
 else if F0 c then
  if Vw (c::s.takeWhile F0) then some (some ⟨2,[],val (c::s.takeWhile F0),0⟩,(s.takeWhile F0).length) else none
 else if Vf c then
  if c=47∧s.head? = some 47 then some (none,(s.takeWhile (· != 10)).length)
  else some (some ⟨3,[c],0,0⟩,0)
 else none
def at' (p:Nat)(t:Token):Token:={ t with At:=p }
inductive Lx where
 | ok (l:List Token)
 | wrong (e:Nat)
 deriving DecidableEq
def Lx.add (o:Option Token)(p:Nat):Lx→Lx
 | .ok l=>.ok ((o.map (at' p)).toList++l)
 | .wrong e=>.wrong e
def Aad:Nat→Au→Nat→Lx
 | _,[],_=>.ok []
 | 0,_::_,_=>.ok []
 | n+1,c::s,p=>match tk c s with
  | none=>.wrong p
  | some (o,k)=>(Aad n (s.drop k) (p+1+k)).add o p
def Ka (s:Au)(p:Nat):Lx:=Aad s.length s p
theorem Adf : ∀ (n m:Nat) (s:Au) (p:Nat),s.length≤n→s.length≤m→Aad n s p=Aad m s p
 | 0,0,s,p,_,_=>rfl
 | 0,m+1,s,p,h,_=>by
  have:s=[]:=List.length_eq_zero_iff.1 (by omega)
  subst this; rfl
 | n+1,0,s,p,_,h=>by
  have:s=[]:=List.length_eq_zero_iff.1 (by omega)
  subst this; rfl
 | n+1,m+1,[],p,_,_=>rfl
 | n+1,m+1,c::s,p,h1,h2=>by
  simp only [List.length_cons] at h1 h2
  rw [Aad,Aad]
  cases tk c s with
  | none=>rfl
  | some x=>
   obtain⟨o,k⟩:=x
   simp only
   rw [Adf n m (s.drop k) _ (by rw [List.length_drop]; omega) (by rw [List.length_drop]; omega)]
theorem Xq (p:Nat):Ka [] p=.ok []:=rfl
theorem Nm (c:UInt8)(s:Au)(p:Nat):Ka (c::s) p=match tk c s with
  | none=>.wrong p
  | some (o,k)=>(Ka (s.drop k) (p+1+k)).add o p:=by
 unfold Ka
 rw [List.length_cons,Aad]
 cases tk c s with
 | none=>rfl
 | some x=>
  obtain⟨o,k⟩:=x
  simp only
  rw [Adf s.length (s.drop k).length (s.drop k) _ (by rw [List.length_drop]; omega) (Nat.le_refl _)]
@[simp] theorem Lx.add_none (p:Nat)(x:Lx):x.add none p=x:=by cases x <;> rfl
theorem Ak8 {c:UInt8}(s:Au)(h:Nw c=true):tk c s=some (none,0):=by unfold tk; rw [if_pos h]
theorem Ahg {c:UInt8}{s:Au}{o:Option Token}{k:Nat}(ht:tk c s=some (o,k)):k≤s.length:=by
 have h1:=Ry Iq s
 have h2:=Ry F0 s
 have h3:=Ry (· != 10) s
 unfold tk at ht
 repeat' split at ht
 all_goals first | (cases ht; done) | (cases ht; assumption) | (cases ht; exact Nat.zero_le _)
theorem Ac7 : ∀ (w s:Au) (p:Nat),w.all Nw=true→Ka (w++s) p=Ka s (p+w.length)
 | [],s,p,_=>rfl
 | c::w,s,p,h=>by
  have h:Nw c=true∧w.all Nw=true:=by simpa using h
  rw [List.cons_append,Nm,Ak8 _ h.1]
  simp only [List.drop_zero,Lx.add_none]
  rw [Ac7 w s _ h.2,List.length_cons]
  congr 1; omega
def out:Lx→List Token×Int×Int
 | .ok l=>(l,0,0)
 | .wrong e=>([],(e:Int),70)
def Gr (s:Au):List Token×Int×Int:=if s.length≤65536 then out (Ka s 0) else([],0,2)
theorem Aar {α:Type}(q:α→Bool) : ∀ l:List α,(l.takeWhile q).all q=true
 | []=>rfl
 | a::l=>by
  rw [List.takeWhile_cons]
  cases h:q a
  ·rfl
  ·rw [if_pos rfl,List.all_cons,h,Aar q l]; rfl
theorem Afn {α:Type}(q:α→Bool)(l:List α):l.drop (l.takeWhile q).length=l.dropWhile q:=by
 induction l with
 | nil=>rfl
 | cons a l ih=>
  rw [List.takeWhile_cons,List.dropWhile_cons]
  cases q a
  ·rfl
  ·simpa using ih
theorem Amd {src:Au}{p:Nat}{c:UInt8}{s:Au}(h:src.drop p=c::s):cut src (p:Int) ((p+1:Nat):Int)=[c]:=by
 unfold cut
 simp only [Int.toNat_natCast]
 rw [h,show p+1 - p=1 by omega]; rfl
theorem Ace {src:Au}{p:Nat}{c:UInt8}{s:Au}(h:src.drop p=c::s)(k:Nat):s.drop k=src.drop (p+1+k):=by
 have:src.drop (p+1)=s:=by rw [← List.drop_drop,h]; rfl
 rw [← this,List.drop_drop]
theorem Alo {src:Au}{p:Nat}{c:UInt8}{s:Au}(h:src.drop p=c::s):src[p]? = some c:=by
 have:=List.getElem?_drop (xs:=src) (i:=p) (j:=0)
 rw [h] at this
 simpa using this.symm
theorem Aer {src:Au}{p:Nat}{c:UInt8}{s:Au}(h:src.drop p=c::s):p+1+s.length=src.length:=by
 have:=congrArg List.length h
 rw [List.length_drop,List.length_cons] at this
 omega
theorem Ajj {c:UInt8}{w:Au}(hc:Sw c=true)(hw:w.all Iq=true):Wc (c::w)=decide (w.length+1≤32):=by
 simp [Wc,hc,hw]
end Go.Am
namespace Go.Am
open Go
set_option linter.unusedVariables false
set_option linter.unusedSimpArgs false
theorem Adr (c:UInt8) : ∀ (l:Au),Lib.indexByte l c=if(l.takeWhile (· != c)).length=l.length then -1 else((l.takeWhile (· != c)).length:Int)
 | []=>rfl
 | a::l=>by
  have ih:=Adr c l
  have hle:=Ry (· != c) l
  rw [Lib.indexByte,List.takeWhile_cons]
  by_cases h:a=c
  ·subst h; simp
  ·have h1:(a != c)=true:=bne_iff_ne.2 h
   have h2:(a==c)=false:=by simpa using h
   rw [ih,h1]
   simp only [h2,Bool.false_eq_true,if_false,if_true,List.length_cons,Nat.add_right_cancel_iff]
   by_cases hq:(l.takeWhile (· != c)).length=l.length
   ·simp [hq]
   ·simp only [hq,if_false]
    have:¬ (((l.takeWhile (· != c)).length:Int)<0):=by omega
    simp [this]
    try omega
theorem Ab4 {α:Type}[BEq α][LawfulBEq α][DecidableEq α](a b:α):(a==b)=decide (a=b):=by
 by_cases h:a=b <;> simp [h]
def Wo:Au→Bool
 | [c]=>Vf c
 | _=>false
def Qr (t:Token):Bool:=if t.Kind==1 then Wc t.Text&&(t.N==0) else if t.Kind==2 then(t.Text==[])&&decide (t.N≥0)&&decide (t.N≤1099511627776) else if t.Kind==3 then Wo t.Text&&(t.N==0) else false
theorem Apx (s:Au):((s.length:Int)==1)=(s.length==1):=by
 rw [Ab4,Ab4,decide_eq_decide]; omega
theorem Ao3 (s:Au){f:Int→R Bool}(hf : ∀ c:UInt8,f (c.toNat:Int)=.ok (Vf c)):(if((s.length:Int)==1) then(En s 0).bind fun a=>f (a.toNat:Int) else R.ok false)=.ok (Wo s):=by
 rw [Apx]
 match s with
 | []=>rfl
 | [c]=>simp only [List.length_singleton,beq_self_eq_true,if_true,Ale,R.ok_bind,hf]; rfl
 | c::d::w=>simp [Wo]
theorem Ake (t:Token):Q6 t=.ok (Qr t):=by
 unfold Q6 Qr
 rw [show(fun a:UInt8=>(Kz (a.toNat:Int)).bind fun r1=>R.ok (r1==4))=fun a:UInt8=>(fun n:Int=>(Kz n).bind fun r1=>R.ok (r1==4)) (a.toNat:Int) from rfl,
  Ao3 (f:=fun n:Int=>(Kz n).bind fun r1=>R.ok (r1==4)) t.Text (fun c=>by simp only [Zg,R.ok_bind,Akr])]
 simp only [Amv,R.ok_bind]
 split
 ·rfl
 ·split
  ·rfl
  ·split <;> rfl
theorem Aep (text:Au)(t:Token)(src:Au)(p:Nat)(l:List Token)(hl:(l.length+1) * 40≤D2) :
  Gb text t src p l=if Qr t then .ok (l++[at' p t]) else .pan ⟨113,.int .i64 p⟩:=by
 unfold Gb
 rw [Ake,R.ok_bind]
 simp only [List.length_singleton]
 rw [if_pos hl]
 rfl
theorem Ajm (n:Nat):Lib.itoa (n:Int)=Lib.decDigits n:=Lib.itoa_nonneg n
theorem Ai5 {α:Type}{p q:α→Bool}(h : ∀ a,p a=q a)(l:List α):l.takeWhile p=l.takeWhile q:=by rw [show p=q from funext h]
theorem Abx {some:List Int}{q:UInt8→Bool}(h : ∀ c,some.contains (Ht c)=q c){src:Au}{p:Nat}{l:List Token}(hp:p≤src.length)(hs:src.length≤65536) :
  Jd ({ fSrc:=src,fAt:=p,fL:=l }:T119) some=.ok ((src.drop p).takeWhile q):=by rw [Aoc src p l some hp hs,Ai5 h]
def Ab2 (p:Nat)(pre:List Token)(c:UInt8)(s:Au):R ((Int×(List Token)) ⊕ (Int×(List Token))):=
 if Nw c then .ok (.inl (((p+1+(s.takeWhile Nw).length:Nat):Int),pre))
 else match tk c s with
  | none=>.pan ⟨113,.int .i64 p⟩
  | some (o,k)=>.ok (.inl (((p+1+k:Nat):Int),pre++(o.map (at' p)).toList))
theorem Aa5 {c:UInt8}{v:Int}(h:(Ht c==v)=true):Ht c=v:=eq_of_beq h
theorem Aic (s:Au):Mm s [47,47]=.ok (decide (s.take 2=[47,47])):=by
 unfold Mm Hk
 by_cases h:2≤s.length
 ·have h1:(s.length:Int)≥(([47,47]:Au).length:Int):=by simp; omega
  simp only [h1,decide_true,if_true]
  rw [if_pos ⟨by simp,trivial⟩]
  simp only [R.ok_bind]
  rw [Ab4]
  rfl
 ·have h1:¬ ((s.length:Int)≥(([47,47]:Au).length:Int)):=by simp; omega
  simp only [h1,decide_false,Bool.false_eq_true,if_false,R.ok_bind]
  rw [decide_eq_false]
  intro e
  have:=congrArg List.length e
  simp at this
  omega
theorem Ai0 (src:Au)(hs:src.length≤65536)(p:Nat)(pre:List Token)(c:UInt8)(s:Au)(h:src.drop p=c::s)(hl:pre.length≤p) :
  Mx src (p:Int) pre=Ab2 p pre c s:=by
 have hlen:=Aer h
 have hat:=Alo h
 have hlim:(pre.length+1) * 40≤D2:=by simp only [D2]; omega
 unfold Mx Ab2
 rw [if_pos (by omega),Ago hat]
 simp only [R.ok_bind,Zg]
 have wr : ∀ k:Nat,k≤s.length→IntKind.wrap .i64 ((p:Int)+((k+1:Nat):Int))=((p+1+k:Nat):Int):=by
  intro k hk; rw [Oi (by omega) (by omega)]; omega
 cases hsp:Nw c
 ·simp only [Bool.false_eq_true,if_false]
  unfold tk
  simp only [hsp,Bool.false_eq_true,if_false]
  cases hle:Sw c
  ·simp only [Bool.false_eq_true,if_false]
   cases hfi:F0 c
   ·simp only [Bool.false_eq_true,if_false]
    cases hsi:Vf c
    ·have h1:Ht c≠1:=fun e=>by rw [← Aj8,e] at hsp; cases hsp
     have h2:Ht c≠2:=fun e=>by rw [← Ahd,e] at hle; cases hle
     have h3:Ht c≠3:=fun e=>by rw [← Akb,e] at hfi; cases hfi
     have h4:Ht c≠4:=fun e=>by rw [← Akr,e] at hsi; cases hsi
     rcases Apo c with e | e | e | e | e | e
     ·rw [e]; rfl
     ·exact absurd e h1
     ·exact absurd e h2
     ·exact absurd e h3
     ·exact absurd e h4
     ·rw [e]; rfl
    ·have hc:Ht c=4:=Aa5 (by rw [Akr,hsi])
     rw [hc]
     simp only [show ¬ ((4:Int)=0) by decide,show ¬ ((4:Int)=1) by decide,show ¬ ((4:Int)=2) by decide,show ¬ ((4:Int)=3) by decide,if_false,if_true]
     unfold L6
     rw [if_pos ⟨by omega,by omega⟩]
     simp only [Int.toNat_natCast]
     rw [Aic,R.ok_bind,h]
     have e2:(decide ((c::s).take 2=[47,47]))=decide (c=47∧s.head? = some 47):=by
      cases s with
      | nil=>simp
      | cons d w=>simp
     rw [e2]
     by_cases hcom:c=47∧s.head? = some 47
     ·simp only [hcom,and_self,decide_true,if_true]
      obtain⟨rfl,hhd⟩:=hcom
      rw [if_pos ⟨by omega,by omega⟩]
      unfold strings_IndexByte
      rw [show((10:Int).toNat.toUInt8)=10 from rfl,Adr,List.takeWhile_cons,show((47:UInt8) != 10)=true by decide,if_pos rfl]
      have hle:=Ry (· != 10) s
      simp only [List.length_cons,Nat.add_right_cancel_iff,R.ok_bind]
      by_cases hall:(s.takeWhile (· != 10)).length=s.length
      ·rw [if_pos hall,if_neg (by omega)]
       simp only [R.ok_bind,hall]
       rw [hlen]; simp
      ·rw [if_neg hall,if_pos (by omega),wr _ hle]
       simp
     ·simp only [hcom,decide_false,Bool.false_eq_true,if_false]
      have hw1:IntKind.wrap .i64 ((p:Int)+1)=((p+1:Nat):Int):=by rw [Oi (by omega) (by omega)]; rfl
      rw [hw1,Amd h,if_pos ⟨by omega,by omega,by omega⟩,Aep _ _ _ _ _ hlim]
      have hv:Qr ({ Kind:=3,Text:=[c],N:=0,At:=0 }:Token)=true:=by
       show Wo [c]&&true=true
       simp [Wo,hsi]
      rw [hv]
      simp only [if_true,R.ok_bind]
      have:=wr 0 (Nat.zero_le _)
      simp only [List.length_singleton]
      rw [show((1:Nat):Int)=((0+1:Nat):Int) from rfl,this]
      rfl
   ·have hc:Ht c=3:=Aa5 (by rw [Akb,hfi])
    rw [hc]
    simp only [show ¬ ((3:Int)=0) by decide,show ¬ ((3:Int)=1) by decide,show ¬ ((3:Int)=2) by decide,if_false,if_true]
    unfold Kf
    rw [Abx (q:=F0) (fun c=>by rw [← Akb]; simp only [List.contains_cons,List.contains_nil,Bool.or_false]) (by omega) hs,h,List.takeWhile_cons,hfi,if_pos rfl]
    have hall:(c::s.takeWhile F0).all F0=true:=by rw [List.all_cons,hfi,Aar]; rfl
    have hle:=Ry F0 s
    simp only [R.ok_bind]
    unfold Of
    rw [if_pos (by simp only [List.length_cons]; omega),Ajx (by simp) hall]
    generalize hg:c::s.takeWhile F0=g
    have hg1:g≠[]:=by rw [← hg]; simp
    rw [hg] at hall
    have hgl:g.length=(s.takeWhile F0).length+1:=by rw [← hg]; rfl
    by_cases hbig:9223372036854775808≤val g
    ·rw [if_pos hbig]
     have:Vw g=false:=by unfold Vw; rw [decide_eq_false (by omega:¬ val g≤1099511627776),Bool.and_false]
     rw [this]
     rfl
    ·rw [if_neg hbig]
     simp only [R.ok_bind,Bool.false_eq_true,if_false]
     unfold strconv_Itoa
     rw [if_pos ⟨by omega,by omega⟩,Ajm]
     simp only [R.ok_bind]
     have hdd:=Aml (val g)
     by_cases hpl:Ul g=true
     ·rw [Anw g hg1 hall hpl]
      simp only [beq_self_eq_true,Bool.not_true,Bool.false_eq_true,if_false]
      rw [Aep _ _ _ _ _ hlim]
      have hv:Qr ({ Kind:=2,Text:=[],N:=(val g:Int),At:=0 }:Token)=Vw g:=by
       unfold Vw; rw [hpl]
       simp only [Qr]
       rw [if_neg (by decide),if_pos (by decide),decide_eq_true (by omega:(val g:Int)≥0),Bool.true_and]
       show(true&&decide ((val g:Int)≤1099511627776))=_
       rw [Bool.true_and,decide_eq_decide]
       omega
      rw [hv]
      cases Vw g
      ·rfl
      ·simp only [if_true,R.ok_bind]
       rw [hgl,wr _ hle]
       rfl
     ·have hne:(Lib.decDigits (val g)==g)=false:=by
       rw [beq_eq_false_iff_ne]; intro e; rw [e] at hdd; exact hpl hdd.2.2.2.1
      rw [hne]
      have:Vw g=false:=by unfold Vw; rw [Bool.eq_false_iff.2 hpl,Bool.false_and]
      rw [this]
      rfl
  ·have hc:Ht c=2:=Aa5 (by rw [Ahd,hle])
   rw [hc]
   simp only [show ¬ ((2:Int)=0) by decide,show ¬ ((2:Int)=1) by decide,if_false,if_true]
   unfold L5
   rw [Abx (q:=Iq) (fun c=>by rw [← Aod]; simp only [List.contains_cons,List.contains_nil,Bool.or_false,Bool.or_assoc]) (by omega) hs,h,List.takeWhile_cons,Adh hle,if_pos rfl]
   simp only [R.ok_bind]
   rw [Aep _ _ _ _ _ hlim]
   have hv:Qr ({ Kind:=1,Text:=c::s.takeWhile Iq,N:=0,At:=0 }:Token)=decide ((s.takeWhile Iq).length+1≤32):=by
    show(Wc (c::s.takeWhile Iq)&&true)=_
    rw [Bool.and_true]
    exact Ajj hle (Aar _ _)
   rw [hv]
   have hle':=Ry Iq s
   by_cases hn:(s.takeWhile Iq).length+1≤32
   ·simp only [hn,decide_true,if_true,R.ok_bind,List.length_cons]
    rw [wr _ hle']
    rfl
   ·simp only [hn,decide_false,Bool.false_eq_true,if_false,R.pan_bind]
 ·have hc:Ht c=1:=Aa5 (by rw [Aj8,hsp])
  rw [hc]
  simp only [show ¬ ((1:Int)=0) by decide,if_false,if_true]
  unfold Lj
  rw [Abx (q:=Nw) (fun c=>by rw [← Aj8]; simp only [List.contains_cons,List.contains_nil,Bool.or_false]) (by omega) hs,h,List.takeWhile_cons,hsp,if_pos rfl]
  simp only [R.ok_bind,List.length_cons]
  rw [wr _ (Ry Nw s)]
def Abe (n:Nat)(pre:List Token):Lx→R (Int×List Token)
 | .ok l=>.ok ((n:Int),pre++l)
 | .wrong e=>.pan ⟨113,.int .i64 (e:Int)⟩
theorem Akh (src:Au)(hs:src.length≤65536) : ∀ (n p:Nat) (pre:List Token),src.length - p≤n→p≤src.length→pre.length≤p →
  loop (C0 fun fAt l=>Mx src fAt l) ((p:Int),pre)=Abe src.length pre (Ka (src.drop p) p):=by
 have hend : ∀ (p:Nat) (pre:List Token),src.drop p=[]→p≤src.length→loop (C0 fun fAt l=>Mx src fAt l) ((p:Int),pre)=Abe src.length pre (Ka (src.drop p) p):=by
  intro p pre e hp
  have:src.length≤p:=by have:=congrArg List.length e; rw [List.length_drop] at this; simp at this; omega
  rw [R9,e,Xq]
  simp only [C0]
  unfold Mx
  rw [if_neg (by omega)]
  simp only [R.ok_bind,Abe,List.append_nil]
  rw [show p=src.length by omega]
 intro n
 induction n with
 | zero=>intro p pre hn hp hl; exact hend p pre (List.drop_eq_nil_of_le (by omega)) hp
 | succ n ih=>
  intro p pre hn hp hl
  cases hd:src.drop p with
  | nil=>rw [← hd]; exact hend p pre hd hp
  | cons c s=>
   rw [R9]
   simp only [C0]
   rw [Ai0 src hs p pre c s hd hl]
   have hlen:=Aer hd
   unfold Ab2
   cases hsp:Nw c
   ·simp only [Bool.false_eq_true,if_false]
    rw [Nm]
    cases ht:tk c s with
    | none=>rfl
    | some x=>
     obtain⟨o,k⟩:=x
     have hk:k≤s.length:=Ahg ht
     have hol:(o.map (at' p)).toList.length≤1:=by cases o <;> simp
     have:=ih (p+1+k) (pre++(o.map (at' p)).toList) (by omega) (by omega) (by rw [List.length_append]; omega)
     simp only [R.ok_bind]
     rw [← Ace hd k] at this
     refine this.trans ?_
     cases Ka (s.drop k) (p+1+k) <;> simp [Abe,Lx.add]
   ·simp only [if_true,R.ok_bind]
    have hle:=Ry Nw s
    have:=ih (p+1+(s.takeWhile Nw).length) pre (by omega) (by omega) (by omega)
    rw [← Ace hd] at this
    refine this.trans ?_
    congr 1
    have e:=Ac7 (c::s.takeWhile Nw) (s.drop (s.takeWhile Nw).length) p (by rw [List.all_cons,hsp,Aar]; rfl)
    rw [Afn,List.cons_append,List.takeWhile_append_dropWhile,List.length_cons] at e
    rw [e,Afn]
    congr 1
    omega
theorem Aoe (s:Au):Zl s=.ok (Gr s):=by
 unfold Zl V0 Gr
 by_cases h:s.length≤65536
 ·rw [if_neg (by omega),if_pos h,show((0:Int),([]:List Token))=(((0:Nat):Int),[]) from rfl,Akh s h s.length 0 [] (by omega) (by omega) (by simp)]
  simp only [List.drop_zero]
  cases Ka s 0 <;> rfl
 ·rw [if_pos (by omega),if_neg h]
  rfl
end Go.Am
namespace Go.Am
open Go
set_option linter.unusedVariables false
set_option linter.unusedSimpArgs false
abbrev PR (α:Type):=Except (List Token×Int) (α×List Token)
abbrev Rd (α:Type):=List Token→PR α
namespace Rd
variable {α β:Type}
def bind (p:Rd α)(f:α→Rd β):Rd β:=fun l=>match p l with
 | .error x=>.error x
 | .ok (a,r)=>f a r
def pure (a:α):Rd α:=fun l=>.ok (a,l)
def fail (e:Int):Rd α:=fun l=>.error (l,e)
end Rd
def Ng (q:Token→Bool):Rd Token
 | []=>.error ([],80)
 | t::r=>if q t then .ok (t,r) else .error (t::r,80)
def Iz (k:Int)(w:Au)(t:Token):Bool:=t.Kind==k&&t.Text==w
def M7 (k:Int)(w:Au):Rd Bool
 | []=>.ok (false,[])
 | t::r=>.ok (Iz k w t,t::r)
def Akf (lo hi st:Int)(t:Token):Bool:=t.Kind==2&&(decide (lo≤t.N)&&(decide (t.N≤hi)&&(Int.tmod t.N st==0)))
def Le:Rd Au:=(Ng fun t=>t.Kind==1).bind fun t=>.pure t.Text
def Kb (k:Int)(w:Au):Rd Unit:=(Ng (Iz k w)).bind fun _=>.pure ()
def Ok (lo hi st:Int):Rd Int:=(Ng (Akf lo hi st)).bind fun t=>.pure t.N
def Pe:Rd Span:=(Ok 0 1439 1).bind fun a=>(Kb 1 [116,111]).bind fun _=>(Ok (a+1) 1440 1).bind fun b=>.pure ⟨a,b⟩
def Fi {α:Type}(p:Rd α):Nat→List α→Rd (List α)
 | n,acc=>p.bind fun a=>(M7 3 [44]).bind fun b=>if b then(match n with
  | 0=>.fail 2
  | n+1=>(Kb 3 [44]).bind fun _=>Fi p n (acc++[a])) else .pure (acc++[a])
def Ab6 (E:Int):List Token→Int
 | []=>E
 | t::_=>t.At
def run {α:Type}(E:Int):PR α→R (α×List Token)
 | .ok x=>.ok x
 | .error (l,e)=>.pan ⟨64,.two .i64 .i64 (Ab6 E l) e⟩
theorem Ad3 {α:Type}(E:Int)(x:α×List Token):run E (.ok x:PR α)=.ok x:=rfl
def L0 {α:Type}(E:Int)(k:Nat)(l:List Token)(x:R α)(p:Rd α):Prop:=(x=(run E (p l)).bind fun y=>.ok y.1) ∧ ∀ a r,p l=.ok (a,r)→r=l.drop k
section
variable {α β:Type} {E:Int} {k:Nat} {l:List Token} {p:Rd α}
theorem Jf {x:R α}{H:α→R (β×List Token)}{f:α→Rd β}(hx:L0 E k l x p)(h : ∀ a,p l=.ok (a,l.drop k)→H a=run E (f a (l.drop k))):x.bind H=run E (p.bind f l):=by
 obtain⟨rfl,h2⟩:=hx
 unfold Rd.bind
 cases hp:p l with
 | error x=>rfl
 | ok y=>
  obtain⟨a,r⟩:=y
  have:=h2 a r hp
  subst this
  exact h a hp
theorem Qx {x:R (α×List Token)}{H:α×List Token→R (β×List Token)}{f:α→Rd β}(hx:x=run E (p l))(h : ∀ a r,p l=.ok (a,r)→H (a,r)=run E (f a r)):x.bind H=run E (p.bind f l):=by
 subst hx
 unfold Rd.bind
 cases hp:p l with
 | error x=>rfl
 | ok y=>exact h _ _ hp
theorem Mh {m n:Nat}{x:R α}{H:α→R β}{f:α→Rd β}{l':List Token}(hn:n=k+m)(hl:l'=l.drop k)(hx:L0 E k l x p)(h : ∀ a,p l=.ok (a,l')→L0 E m l' (H a) (f a)):L0 E n l (x.bind H) (p.bind f):=by
 subst hl hn
 obtain⟨rfl,h2⟩:=hx
 unfold L0 Rd.bind
 cases hp:p l with
 | error x=>exact⟨rfl,fun _ _ h=>nomatch h⟩
 | ok y=>
  obtain⟨a,r⟩:=y
  have:=h2 a r hp
  subst this
  obtain⟨h3,h4⟩:=h a hp
  refine⟨h3,fun b r hr=>?_⟩
  rw [h4 b r hr,List.drop_drop]
theorem Qc (a:α):L0 E 0 l (.ok a) (Rd.pure a):=⟨rfl,fun _ _ h=>by cases h; rfl⟩
end
theorem Ju (e:Int)(l:List Token)(E:Int):Bm e l E=.pan ⟨64,.two .i64 .i64 (Ab6 E l) e⟩:=by
 unfold Bm
 cases l with
 | nil=>rfl
 | cons t l=>rw [if_pos (by simp only [List.length_cons]; omega)]; rfl
theorem Afo (r:T67)(e:Int):L7 r e=.pan ⟨64,.two .i64 .i64 (Ab6 r.fEnd r.fL) e⟩:=by
 unfold L7
 cases h:r.fL with
 | nil=>rfl
 | cons t l=>rw [if_pos (by simp only [List.length_cons]; omega)]; rfl
theorem We (kind:Int)(q:Token→Bool)(l:List Token)(E:Int)(j:R Token)(hj:j=((En l 0).bind fun a2=>if(0:Int)≤1∧1≤(l.length:Int) then .ok a2 else .bad))  (c:Token→R Bool)(hc : ∀ t,c t=.ok (q t)) :
  ((if((l.length:Int)==0) then R.ok true else(En l 0).bind fun a=>R.ok (a.Kind != kind)).bind (fun(b:Bool)=>(if b then R.ok true else(En l 0).bind fun a1=>(c a1).bind fun r=>R.ok (!r)).bind (fun(b1:Bool)=>if b1 then((Bm 80 l E).bind fun _=>j) else j)))
   = (run E (Ng (fun t=>t.Kind==kind&&q t) l)).bind fun y=>.ok y.1:=by
 subst hj
 cases l with
 | nil=>rfl
 | cons t l=>
  have e:En (t::l) 0=.ok t:=rfl
  have e0:(((t::l).length:Int)==0)=false:=by simp only [List.length_cons,beq_eq_false_iff_ne]; omega
  have e1:(0:Int)≤1∧1≤((t::l).length:Int):=by simp only [List.length_cons]; omega
  simp only [e,e0,R.ok_bind,hc,Ju,Ng,if_pos e1,Bool.false_eq_true,if_false]
  by_cases hk:t.Kind=kind
  ·have h1:(t.Kind==kind)=true:=by simp [hk]
   have h2:(t.Kind != kind)=false:=by simp [hk]
   simp only [h1,h2,Bool.false_eq_true,if_false,R.ok_bind,Bool.true_and]
   cases q t <;> rfl
  ·have h1:(t.Kind==kind)=false:=by simp [hk]
   have h2:(t.Kind != kind)=true:=by simp [hk]
   simp only [h1,h2,if_true,R.ok_bind,Bool.false_and]
   rfl
theorem Ahm {q:Token→Bool}{l:List Token}{a:Token}{r:List Token}(h:Ng q l=.ok (a,r)):r=l.drop 1:=by
 cases l with
 | nil=>cases h
 | cons t l=>
  simp only [Ng] at h
  split at h
  ·cases h; rfl
  ·cases h
theorem Yw {α:Type}{E:Int}{l:List Token}{q:Token→Bool}{x:R Token}(f:Token→α)(hx:x=(run E (Ng q l)).bind fun y=>.ok y.1):L0 E 1 l (x.bind fun r=>.ok (f r)) ((Ng q).bind fun t=>.pure (f t)):=by
 subst hx
 unfold L0 Rd.bind
 cases h:Ng q l with
 | error x=>exact⟨rfl,fun _ _ h=>nomatch h⟩
 | ok y=>exact⟨rfl,fun a r h'=>by cases h'; exact Ahm h⟩
theorem Q2 (E:Int)(l:List Token):L0 E 1 l (B3 l E) Le:=by
 have:=Yw (E:=E) (l:=l) (fun t=>t.Text) (We 1 (fun _=>true) l E _ rfl J1 (fun _=>rfl))
 simp only [Bool.and_true] at this
 exact this
theorem Md (E:Int)(w:Au)(l:List Token):L0 E 1 l (Cy w l E) (Kb 1 w):=
 Yw (E:=E) (l:=l) (fun _=>()) (We 1 (fun t=>t.Text==w) l E _ rfl (fun t=>J3 t w) (fun _=>rfl))
theorem Wi (E:Int)(w:Au)(l:List Token):L0 E 1 l (B7 w l E) (Kb 3 w):=
 Yw (E:=E) (l:=l) (fun _=>()) (We 3 (fun t=>t.Text==w) l E _ rfl (fun t=>J0 t w) (fun _=>rfl))
theorem Ao1 (n:Int):(Int.tmod n 1==0)=true:=by simp
theorem M4 (E lo hi:Int)(l:List Token):L0 E 1 l (De lo hi l E) (Ok lo hi 1):=by
 have:=Yw (E:=E) (l:=l) (fun t=>t.N) (We 2 (fun t=>decide (lo≤t.N)&&(decide (t.N≤hi)&&(Int.tmod t.N 1==0))) l E _ rfl (fun t=>Gu t lo hi) (fun t=>by simp only [Gu,Ao1,Bool.and_true]))
 exact this
theorem Ag0 (k:Int)(w:Au)(l:List Token)(E:Int):Fh k w l E=.ok (match l with | []=>false | t::_=>Iz k w t):=by
 unfold Fh
 cases l with
 | nil=>rfl
 | cons t l=>
  have e:En (t::l) 0=.ok t:=rfl
  have e0:decide (((t::l).length:Int) > 0)=true:=by simp only [List.length_cons,decide_eq_true_eq]; omega
  simp only [e,e0,R.ok_bind,if_true,Iz]
  cases t.Kind==k <;> rfl
theorem Aga {q:Token→Bool}{l:List Token}{a:Token}{r:List Token}(h:Ng q l=.ok (a,r)):l=a::r∧q a=true:=by
 cases l with
 | nil=>cases h
 | cons t l=>
  simp only [Ng] at h
  split at h
  ·rename_i hq; cases h; exact⟨rfl,hq⟩
  ·cases h
theorem Nf {α β:Type}{p:Rd α}{f:α→Rd β}{l:List Token}{b:β}{r:List Token}(h:p.bind f l=.ok (b,r)) : ∃ a m,p l=.ok (a,m)∧f a m=.ok (b,r):=by
 unfold Rd.bind at h
 cases hp:p l with
 | error x=>rw [hp] at h; cases h
 | ok y=>rw [hp] at h; exact⟨y.1,y.2,rfl,h⟩
theorem Ano {lo hi st:Int}{l:List Token}{a:Int}{r:List Token}(h:Ok lo hi st l=.ok (a,r)) : ∃ t,l=t::r∧t.Kind=2∧t.N=a∧lo≤a∧a≤hi∧Int.tmod a st=0:=by
 obtain⟨t,m,h1,h2⟩:=Nf h
 cases h2
 obtain⟨rfl,hq⟩:=Aga h1
 simp only [Akf,Bool.and_eq_true,decide_eq_true_eq,beq_iff_eq] at hq
 exact⟨t,rfl,hq.1,rfl,hq.2.1,hq.2.2.1,hq.2.2.2⟩
theorem Adz (E:Int)(l:List Token):L0 E 3 l (Hf l E) Pe:=by
 refine Mh (m:=2) rfl rfl (M4 E 0 1439 l) fun a ha=>?_
 refine Mh (m:=1) rfl rfl (Md E _ _) fun _ _=>?_
 have e:IntKind.wrap .i64 (a+1)=a+1:=by
  obtain⟨t,_,_,_,h1,h2,_⟩:=Ano ha
  exact Oi (by omega) (by omega)
 rw [e]
 exact Mh (m:=0) rfl rfl (M4 E (a+1) 1440 _) fun b _=>Qc _
end Go.Am
namespace Go.Am
open Go
set_option linter.unusedVariables false
set_option linter.unusedSimpArgs false
def Tc (w:Au):Rd (List Span):=(M7 1 w).bind fun b=>if b then(Kb 1 w).bind fun _=>Fi Pe 15 [] else .pure []
def S8:Rd Mode:=(Kb 1 [109,111,100,101]).bind fun _=>Le.bind fun n=>(Ok 0 64 1).bind fun k=>.pure { Name:=n,Places:=k }
def Xj (s:Au):Rd Volume:=(Tc [99,108,111,115,101,100]).bind fun c=>.pure { Name:=s,Closed:=c }
def W2 (s:Au):Rd Sector:=(Kb 3 [61]).bind fun _=>(Fi Le 63 []).bind fun ns=>(Kb 1 [114,97,100,97,114]).bind fun _=>(Ok 0 64 1).bind fun a=>
 (Kb 1 [112,114,111,99,101,100,117,114,97,108]).bind fun _=>(Ok 0 a 1).bind fun b=>.pure { Name:=s,Names:=ns,Volumes:=[],Radar:=a,Procedural:=b }
def Xz (s:Au):Rd Config:=(Kb 3 [61]).bind fun _=>(Fi Le 63 []).bind fun ns=>.pure { Name:=s,Names:=ns,Sectors:=[] }
def Xc (s:Au):Rd Segment:=(Kb 1 [105,110]).bind fun _=>Le.bind fun v=>(Kb 1 [108,101,110,103,116,104]).bind fun _=>(Ok 1 4096 1).bind fun k=>
 (Tc [111,112,101,110]).bind fun o=>.pure { Name:=s,In:=v,Volume:=0,Length:=k,Open:=o }
def Xr (s:Au):Rd Route:=(Kb 1 [102,114,111,109]).bind fun _=>Le.bind fun a=>(Kb 1 [116,111]).bind fun _=>Le.bind fun b=>(Kb 1 [118,105,97]).bind fun _=>
 (Fi Le 7 []).bind fun ns=>.pure { Name:=s,A:=a,B:=b,From:=0,To:=0,Names:=ns,Segments:=[] }
def Xu (s:Au):Rd Airport:=(Fi S8 15 []).bind fun ms=>.pure { Name:=s,Modes:=ms }
def Xt (s:Au):Rd Class:=(Kb 1 [115,108,111,119]).bind fun _=>(Ok 1 64 1).bind fun a=>(Kb 1 [102,97,115,116]).bind fun _=>(Ok a 64 1).bind fun b=>
 (Kb 1 [112,108,97,99,101,115]).bind fun _=>(Ok 1 8 1).bind fun c=>.pure { Name:=s,Slow:=a,Fast:=b,Places:=c }
def U7 (k:Int)(c a:Au)(n:Int)(h:Span):Rule:={ Kind:=k,C:=c,A:=a,Class:=0,Airport:=0,N:=n,Hours:=h }
def Xo (s:Au):Rd Rule:=(Kb 1 [97,116]).bind fun _=>Le.bind fun a=>Pe.bind fun h=>.pure (U7 1 s a 0 h)
def Yp (s:Au):Rd Rule:=.pure (U7 2 s [] 0 ⟨0,0⟩)
def Xa (s:Au):Rd Rule:=(Ok 1 8 1).bind fun n=>.pure (U7 3 s [] n ⟨0,0⟩)
def V2 (s:Au):Rd Rule:=(Ok 0 60 10).bind fun n=>.pure (U7 4 s [] n ⟨0,0⟩)
def Ej {α:Type}(p:Au→Rd α):Rd α:=Le.bind fun n=>(p n).bind fun x=>(Kb 3 [59]).bind fun _=>.pure x
section
variable {α:Type} {E:Int}
theorem Y1 {k sz most:Nat}{G:List Token→R α}{p:Rd α}(hG : ∀ l,L0 E k l (G l) p){b:List Token×List α→R ((List Token×List α) ⊕ (List α×List Token))}
  (hb : ∀ fL l1,b (fL,l1)=(G fL).bind fun r=>if(l1.length+1) * sz≤D2 then(Fh 3 [44] (fL.drop k) E).bind fun r1=>if r1 then(if(((l1++[r]).length:Int)==most) then .pan ⟨64,.two .i64 .i64 (Ab6 E (fL.drop k)) 2⟩ else(B7 [44] (fL.drop k) E).bind fun _=>.ok (.inl ((fL.drop k).drop 1,l1++[r]))) else .ok (.inr (l1++[r],fL.drop k)) else .bad)
  (hs:most * sz≤D2) : ∀ (n:Nat) (l:List Token) (acc:List α),acc.length+n+1=most→loop b (l,acc)=run E (Fi p n acc l):=by
 intro n
 induction n with
 | zero=>
  intro l acc hn
  rw [R9,hb,Fi]
  obtain⟨h1,h2⟩:=hG l
  rw [h1]
  unfold Rd.bind
  cases hp:p l with
  | error x=>rfl
  | ok y=>
   obtain⟨a,r⟩:=y
   have:=h2 a r hp; subst this
   have e1:(acc.length+1) * sz≤D2:=Nat.le_trans (Nat.mul_le_mul_right _ (by omega)) hs
   have e2:(((acc++[a]).length:Int)==most)=true:=by simp; omega
   simp only [Ad3,R.ok_bind,if_pos e1,Ag0,e2,if_true]
   cases l.drop k with
   | nil=>rfl
   | cons t r=>
    cases h:Iz 3 [44] t <;> simp only [M7,h,Bool.false_eq_true,if_false,if_true,R.ok_bind,R.pan_bind] <;> rfl
 | succ n ih=>
  intro l acc hn
  rw [R9,hb,Fi]
  obtain⟨h1,h2⟩:=hG l
  rw [h1]
  unfold Rd.bind
  cases hp:p l with
  | error x=>rfl
  | ok y=>
   obtain⟨a,r⟩:=y
   have:=h2 a r hp; subst this
   have e1:(acc.length+1) * sz≤D2:=Nat.le_trans (Nat.mul_le_mul_right _ (by omega)) hs
   have e2:(((acc++[a]).length:Int)==most)=false:=by simp; omega
   simp only [Ad3,R.ok_bind,if_pos e1,Ag0,e2,Bool.false_eq_true,if_false]
   have e3:=(Wi E [44] (l.drop k)).1
   cases hd:l.drop k with
   | nil=>rfl
   | cons t r=>
    cases h:Iz 3 [44] t
    ·simp only [M7,h,Bool.false_eq_true,if_false,R.ok_bind]; rfl
    ·rw [hd] at e3
     have e4:Kb 3 [44] (t::r)=.ok ((),r):=by simp only [Kb,Rd.bind,Ng,h,if_true]; rfl
     simp only [M7,h,if_true,e3,e4,Ad3,R.ok_bind,List.drop_one,List.tail_cons]
     exact ih r (acc++[a]) (by simp; omega)
end
theorem Aek (E:Int)(l:List Token)(v:List Volume):E5 16 l E v=run E (Fi Pe 15 [] l):=by
 unfold E5
 rw [Y1 (k:=3) (sz:=16) (most:=16) (G:=fun l=>Hf l E) (p:=Pe) (Adz E) (fun fL l1=>?_) (by decide) 15 l [] rfl,R.bind_ok]
 simp only [C0,F3,F4,Ju,R.pan_bind,List.length_singleton,List.drop_drop]
 all_goals rfl
theorem Ama (E:Int)(l:List Token):L0 E 3 l (Fp l E) S8:=
 Mh (m:=2) rfl rfl (Md E _ l) fun _ _=>Mh (m:=1) rfl rfl (Q2 E _) fun _ _=>Mh (m:=0) rfl rfl (M4 E 0 64 _) fun _ _=>Qc _
theorem Afe (E:Int)(l:List Token)(v:List Volume):Gx 16 l E v=run E (Fi S8 15 [] l):=by
 unfold Gx
 rw [Y1 (k:=3) (sz:=24) (most:=16) (G:=fun l=>Fp l E) (p:=S8) (Ama E) (fun fL l1=>?_) (by decide) 15 l [] rfl,R.bind_ok]
 simp only [C0,G6,G2,Ju,R.pan_bind,List.length_singleton,List.drop_drop]
 all_goals rfl
theorem V6 (E:Int)(m:Nat)(hm:(m+1) * 16≤D2)(l:List Token)(v:List Volume):D9 ((m+1:Nat):Int) l E v=run E (Fi Le m [] l):=by
 unfold D9
 rw [Y1 (k:=1) (sz:=16) (most:=m+1) (G:=fun l=>B3 l E) (p:=Le) (Q2 E) (fun fL l1=>?_) hm m l [] (by simp),R.bind_ok]
 simp only [C0,Fx,Fy,Ju,R.pan_bind,List.length_singleton,List.drop_drop]
 all_goals rfl
end Go.Am
namespace Go.Am
open Go
set_option linter.unusedVariables false
set_option linter.unusedSimpArgs false
def Lc (w:Au)(A:Airspace):Option (Bool×Rd Airspace):=
 if w==[97,105,114,112,111,114,116] then some (decide (16≤A.Airports.length),(Ej Xu).bind fun x=>.pure { A with Airports:=A.Airports++[x] }) else
 if w==[99,108,97,115,115] then some (decide (8≤A.Classes.length),(Ej Xt).bind fun x=>.pure { A with Classes:=A.Classes++[x] }) else
 if w==[99,111,110,102,105,103] then some (decide (32≤A.Configs.length),(Ej Xz).bind fun x=>.pure { A with Configs:=A.Configs++[x] }) else
 if w==[99,117,114,102,101,119] then some (decide (64≤A.Rules.length),(Ej Xo).bind fun x=>.pure { A with Rules:=A.Rules++[x] }) else
 if w==[101,120,101,109,112,116] then some (decide (64≤A.Rules.length),(Ej Yp).bind fun x=>.pure { A with Rules:=A.Rules++[x] }) else
 if w==[108,111,110,103,101,115,116] then some (decide (64≤A.Rules.length),(Ej V2).bind fun x=>.pure { A with Rules:=A.Rules++[x] }) else
 if w==[114,111,117,116,101] then some (decide (64≤A.Routes.length),(Ej Xr).bind fun x=>.pure { A with Routes:=A.Routes++[x] }) else
 if w==[115,101,99,116,111,114] then some (decide (64≤A.Sectors.length),(Ej W2).bind fun x=>.pure { A with Sectors:=A.Sectors++[x] }) else
 if w==[115,101,103,109,101,110,116] then some (decide (128≤A.Segments.length),(Ej Xc).bind fun x=>.pure { A with Segments:=A.Segments++[x] }) else
 if w==[118,111,108,117,109,101] then some (decide (64≤A.Volumes.length),(Ej Xj).bind fun x=>.pure { A with Volumes:=A.Volumes++[x] }) else
 if w==[119,101,105,103,104,116] then some (decide (64≤A.Rules.length),(Ej Xa).bind fun x=>.pure { A with Rules:=A.Rules++[x] }) else
 none
def Hn (A:Airspace):Rd Airspace
 | []=>.error ([],80)
 | t::r=>if t.Kind==1 then(match Lc t.Text A with
  | none=>.error (t::r,80)
  | some (f,p)=>if f then .error (t::r,2) else p r) else .error (t::r,80)
theorem Adw (w:Au)(E:Int)(l:List Token)(v:List Volume):Ge w l E v=run E (Tc w l):=by
 unfold Ge Tc
 rw [Ag0]
 cases l with
 | nil=>rfl
 | cons t r=>
  show(if Iz 1 w t=true then _ else _)=run E ((if Iz 1 w t=true then(Kb 1 w).bind fun _=>Fi Pe 15 [] else .pure []) (t::r))
  split
  ·refine Jf (Md E w _) fun _ _=>?_
   rw [show(E5 16 (List.drop 1 (t::r)) E v)=run E (Fi Pe 15 [] (List.drop 1 (t::r))) from Aek E _ v]
   cases Fi Pe 15 [] (List.drop 1 (t::r)) <;> rfl
  ·rfl
theorem Aot (s:Au)(E:Int)(l:List Token)(v:List Volume):E1 s l E v=run E (Xj s l):=by
 unfold E1 Xj
 exact Qx (Adw _ E l v) fun a r _=>rfl
theorem Aog (s:Au)(E:Int)(l:List Token)(v:List Volume):E4 s l E v=run E (W2 s l):=by
 unfold E4 W2
 refine Jf (Wi E _ l) fun _ _=>Qx (V6 E 63 (by decide) _ v) fun ns r _=>?_
 exact Jf (Md E _ r) fun _ _=>Jf (M4 E 0 64 _) fun a _=>Jf (Md E _ _) fun _ _=>Jf (M4 E 0 a _) fun b _=>rfl
theorem Aol (s:Au)(E:Int)(l:List Token)(v:List Volume):E0 s l E v=run E (Xz s l):=by
 unfold E0 Xz
 exact Jf (Wi E _ l) fun _ _=>Qx (V6 E 63 (by decide) _ v) fun ns r _=>rfl
theorem An6 (s:Au)(E:Int)(l:List Token)(v:List Volume):E2 s l E v=run E (Xc s l):=by
 unfold E2 Xc
 refine Jf (Md E _ l) fun _ _=>Jf (Q2 E _) fun a _=>Jf (Md E _ _) fun _ _=>Jf (M4 E 1 4096 _) fun b _=>?_
 exact Qx (Adw _ E _ v) fun o r _=>rfl
theorem Aok (s:Au)(E:Int)(l:List Token)(v:List Volume):E7 s l E v=run E (Xr s l):=by
 unfold E7 Xr
 refine Jf (Md E _ l) fun _ _=>Jf (Q2 E _) fun a _=>Jf (Md E _ _) fun _ _=>Jf (Q2 E _) fun b _=>Jf (Md E _ _) fun _ _=>?_
 exact Qx (V6 E 7 (by decide) _ v) fun o r _=>rfl
theorem An3 (s:Au)(E:Int)(l:List Token)(v:List Volume):E3 s l E v=run E (Xu s l):=by
 unfold E3 Xu
 exact Qx (Afe E l v) fun ms r _=>rfl
theorem Aiw (s:Au)(E:Int)(l:List Token):L0 E 6 l (Fm s l E) (Xt s):=
 Mh (m:=5) rfl rfl (Md E _ l) fun _ _=>Mh (m:=4) rfl rfl (M4 E 1 64 _) fun a _=>Mh (m:=3) rfl rfl (Md E _ _) fun _ _=>Mh (m:=2) rfl rfl (M4 E a 64 _) fun b _=>
  Mh (m:=1) rfl rfl (Md E _ _) fun _ _=>Mh (m:=0) rfl rfl (M4 E 1 8 _) fun b _=>Qc _
theorem Abm {α:Type}{E:Int}{k:Nat}{l:List Token}{x:R α}{p:Rd α}(h:L0 E k l x p):L0 E k l (x.bind fun r=>.ok r) p:=by rw [R.bind_ok]; exact h
theorem Ahz (s:Au)(E:Int)(l:List Token):L0 E 5 l (Fq s 1 l E) (Xo s):=
 Abm<|Mh (m:=4) rfl rfl (Md E _ l) fun _ _=>Mh (m:=3) rfl rfl (Q2 E _) fun a _=>Mh (m:=0) rfl rfl (Adz E _) fun h _=>Qc _
theorem Ah8 (s:Au)(E:Int)(l:List Token):L0 E 1 l (Fv s 3 l E) (Xa s):=
 Abm<|Mh (m:=0) rfl rfl (M4 E 1 8 l) fun _ _=>Qc _
theorem Ahr (s:Au)(E:Int)(l:List Token)(hl : ∀ t ∈ l,0≤t.N):L0 E 1 l (Fu s 4 l E) (V2 s):=by
 have hn:L0 E 1 l ((Gt 2 l E).bind fun r=>.ok r.N) (Ok 0 60 10):=by
  have h:=Yw (E:=E) (l:=l) (fun t=>t.N) (We 2 (fun t=>decide (t.N≤60)&&(Int.tmod t.N 10==0)) l E _ rfl Gj (fun _=>rfl))
  have e:((Ng fun t=>t.Kind==2&&(decide (t.N≤60)&&(Int.tmod t.N 10==0))).bind fun t=>Rd.pure t.N) l=Ok 0 60 10 l:=by
   unfold Ok Rd.bind
   cases l with
   | nil=>rfl
   | cons t l=>
    have h0:decide (0≤t.N)=true:=decide_eq_true (hl t (List.mem_cons_self ..))
    simp only [Ng,Akf,h0,Bool.true_and]
  unfold L0 at h ⊢
  rw [e] at h
  exact h
 have:L0 E (1+0) l (((Gt 2 l E).bind fun r=>.ok r.N).bind fun n=>.ok (U7 4 s [] n ⟨0,0⟩)) (V2 s):=Mh rfl rfl hn fun _ _=>Qc _
 rw [R.bind_assoc] at this
 exact Abm this
section
variable {α β:Type} {E:Int}
theorem Ut {item:Au→List Token→R (α×List Token)}{p:Au→Rd α}(hi : ∀ s l,item s l=run E (p s l))(acc:List α)(sz:Nat)(h:(acc.length+1) * sz≤D2)(l:List Token) :
  ((B3 l E).bind fun r1=>(item r1 (l.drop 1)).bind fun r2=>(B7 [59] r2.2 E).bind fun _=>if(acc.length+[r2.1].length) * sz≤D2 then R.ok ((r2.2.drop 1),acc++[r2.1]) else .bad)=(run E (Ej p l)).bind fun x=>.ok (x.2,acc++[x.1]):=by
 have e:((B3 l E).bind fun r1=>(item r1 (l.drop 1)).bind fun r2=>(B7 [59] r2.2 E).bind fun _=>R.ok (r2.1,r2.2.drop 1))=run E (Ej p l):=
  Jf (Q2 E l) fun a _=>Qx (hi a _) fun x r _=>Jf (Wi E _ r) fun _ _=>rfl
 rw [← e]
 simp only [R.bind_assoc,R.ok_bind,List.length_singleton,if_pos h]
theorem Qn {k:Nat}{item:Au→R α}{p:Au→Rd α}(acc:List α)(sz:Nat)(h:(acc.length+1) * sz≤D2)(l:List Token)(hi : ∀ s,L0 E k (l.drop 1) (item s) (p s)) :
  ((B3 l E).bind fun r1=>(item r1).bind fun r2=>(B7 [59] ((l.drop 1).drop k) E).bind fun _=>if(acc.length+[r2].length) * sz≤D2 then R.ok (acc++[r2]) else .bad)=((run E (Ej p l)).bind fun x=>.ok (acc++[x.1])) ∧ ∀ x r,Ej p l=.ok (x,r)→r=l.drop (k+2):=by
 have e:L0 E (k+2) l ((B3 l E).bind fun r1=>(item r1).bind fun r2=>(B7 [59] ((l.drop 1).drop k) E).bind fun _=>R.ok r2) (Ej p):=
  Mh (m:=k+1) (by omega) rfl (Q2 E l) fun a _=>Mh (m:=1) rfl rfl (hi a) fun x _=>Mh (m:=0) rfl rfl (Wi E _ _) fun _ _=>Qc _
 refine⟨?_,e.2⟩
 have e1:=congrArg (fun z=>R.bind z fun x=>R.ok (acc++[x])) e.1
 simp only [R.bind_assoc,R.ok_bind] at e1
 rw [← e1]
 simp only [List.length_singleton,if_pos h]
end
end Go.Am
namespace Go.Am
open Go
set_option linter.unusedVariables false
set_option linter.unusedSimpArgs false
theorem Am8 (E:Int)(t:Token)(r:List Token)(v:List Volume)(acc:List Airport)(h:acc.length≤16):Ip (t::r) E v acc=if 16≤acc.length then .pan ⟨64,.two .i64 .i64 t.At 2⟩ else(run E (Ej Xu r)).bind fun x=>.ok (x.2,acc++[x.1]):=by
 show(Gw 16 (t::r) E v acc).bind (fun r=>.ok r)=_
 rw [R.bind_ok]
 unfold Gw G7
 by_cases hf:16≤acc.length
 ·have e:((acc.length:Int)==16)=true:=by rw [beq_iff_eq]; omega
  rw [if_pos hf]
  simp only [e,if_true,Ju,R.pan_bind]
  rfl
 ·have e:((acc.length:Int)==16)=false:=by rw [beq_eq_false_iff_ne]; omega
  have e1:(0:Int)≤1∧1≤((t::r).length:Int):=by simp only [List.length_cons]; omega
  rw [if_neg hf]
  simp only [e,Bool.false_eq_true,if_false,if_pos e1]
  exact Ut (E:=E) (item:=fun s l=>E3 s l E v) (fun s l=>An3 s E l v) acc 40 (by unfold D2; omega) r
theorem Aly (E:Int)(t:Token)(r:List Token)(acc:List Class)(h:acc.length≤8):Il (t::r) E acc=if 8≤acc.length then .pan ⟨64,.two .i64 .i64 t.At 2⟩ else(run E (Ej Xt r)).bind fun x=>.ok (acc++[x.1]):=by
 show(Hu 8 (t::r) E acc).bind (fun r=>.ok r)=_
 rw [R.bind_ok]
 unfold Hu Hz
 by_cases hf:8≤acc.length
 ·have e:((acc.length:Int)==8)=true:=by rw [beq_iff_eq]; omega
  rw [if_pos hf]
  simp only [e,if_true,Ju,R.pan_bind]
  rfl
 ·have e:((acc.length:Int)==8)=false:=by rw [beq_eq_false_iff_ne]; omega
  have e1:(0:Int)≤1∧1≤((t::r).length:Int):=by simp only [List.length_cons]; omega
  rw [if_neg hf]
  simp only [e,Bool.false_eq_true,if_false,if_pos e1]
  have q:=(Qn (E:=E) (k:=6) (item:=fun s=>Fm s (r.drop 1) E) acc 40 (by unfold D2; omega) r (fun s=>Aiw s E _)).1
  have ee:Int.toNat 1=1:=rfl
  simp only [ee,List.drop_drop,Nat.reduceAdd] at q ⊢
  exact q
theorem Anb (E:Int)(t:Token)(r:List Token)(v:List Volume)(acc:List Config)(h:acc.length≤32):Iw (t::r) E v acc=if 32≤acc.length then .pan ⟨64,.two .i64 .i64 t.At 2⟩ else(run E (Ej Xz r)).bind fun x=>.ok (x.2,acc++[x.1]):=by
 show(Ha 32 (t::r) E v acc).bind (fun r=>.ok r)=_
 rw [R.bind_ok]
 unfold Ha Hj
 by_cases hf:32≤acc.length
 ·have e:((acc.length:Int)==32)=true:=by rw [beq_iff_eq]; omega
  rw [if_pos hf]
  simp only [e,if_true,Ju,R.pan_bind]
  rfl
 ·have e:((acc.length:Int)==32)=false:=by rw [beq_eq_false_iff_ne]; omega
  have e1:(0:Int)≤1∧1≤((t::r).length:Int):=by simp only [List.length_cons]; omega
  rw [if_neg hf]
  simp only [e,Bool.false_eq_true,if_false,if_pos e1]
  exact Ut (E:=E) (item:=fun s l=>E0 s l E v) (fun s l=>Aol s E l v) acc 64 (by unfold D2; omega) r
theorem Amh (E:Int)(t:Token)(r:List Token)(acc:List Rule)(h:acc.length≤64):Ij (t::r) E acc=if 64≤acc.length then .pan ⟨64,.two .i64 .i64 t.At 2⟩ else(run E (Ej Xo r)).bind fun x=>.ok (acc++[x.1]):=by
 show((H7 64 (t::r) E acc 1).bind (fun r=>.ok r)).bind (fun r=>.ok r)=_
 rw [R.bind_ok,R.bind_ok]
 unfold H7 Io
 by_cases hf:64≤acc.length
 ·have e:((acc.length:Int)==64)=true:=by rw [beq_iff_eq]; omega
  rw [if_pos hf]
  simp only [e,if_true,Ju,R.pan_bind]
  rfl
 ·have e:((acc.length:Int)==64)=false:=by rw [beq_eq_false_iff_ne]; omega
  have e1:(0:Int)≤1∧1≤((t::r).length:Int):=by simp only [List.length_cons]; omega
  rw [if_neg hf]
  simp only [e,Bool.false_eq_true,if_false,if_pos e1]
  have q:=(Qn (E:=E) (k:=5) (item:=fun s=>Fq s 1 (r.drop 1) E) acc 80 (by unfold D2; omega) r (fun s=>Ahz s E _)).1
  have ee:Int.toNat 1=1:=rfl
  simp only [ee,List.drop_drop,Nat.reduceAdd] at q ⊢
  exact q
theorem Amm (E:Int)(t:Token)(r:List Token)(acc:List Rule)(h:acc.length≤64):Ir (t::r) E acc=if 64≤acc.length then .pan ⟨64,.two .i64 .i64 t.At 2⟩ else(run E (Ej Yp r)).bind fun x=>.ok (acc++[x.1]):=by
 show((Id 64 (t::r) E acc 2).bind (fun r=>.ok r)).bind (fun r=>.ok r)=_
 rw [R.bind_ok,R.bind_ok]
 unfold Id Iu
 by_cases hf:64≤acc.length
 ·have e:((acc.length:Int)==64)=true:=by rw [beq_iff_eq]; omega
  rw [if_pos hf]
  simp only [e,if_true,Ju,R.pan_bind]
  rfl
 ·have e:((acc.length:Int)==64)=false:=by rw [beq_eq_false_iff_ne]; omega
  have e1:(0:Int)≤1∧1≤((t::r).length:Int):=by simp only [List.length_cons]; omega
  rw [if_neg hf]
  simp only [e,Bool.false_eq_true,if_false,if_pos e1]
  exact(Qn (E:=E) (k:=0) (item:=fun s=>(Gy s 2).bind fun _=>.ok (U7 2 s [] 0 ⟨0,0⟩)) acc 80 (by unfold D2; omega) r (fun s=>Qc _)).1
theorem Anm (E:Int)(t:Token)(r:List Token)(hl : ∀ x ∈ r,0≤x.N)(acc:List Rule)(h:acc.length≤64):H0 (t::r) E acc=if 64≤acc.length then .pan ⟨64,.two .i64 .i64 t.At 2⟩ else(run E (Ej V2 r)).bind fun x=>.ok (acc++[x.1]):=by
 show((Ig 64 (t::r) E acc 4).bind (fun r=>.ok r)).bind (fun r=>.ok r)=_
 rw [R.bind_ok,R.bind_ok]
 unfold Ig Ih
 by_cases hf:64≤acc.length
 ·have e:((acc.length:Int)==64)=true:=by rw [beq_iff_eq]; omega
  rw [if_pos hf]
  simp only [e,if_true,Ju,R.pan_bind]
  rfl
 ·have e:((acc.length:Int)==64)=false:=by rw [beq_eq_false_iff_ne]; omega
  have e1:(0:Int)≤1∧1≤((t::r).length:Int):=by simp only [List.length_cons]; omega
  rw [if_neg hf]
  simp only [e,Bool.false_eq_true,if_false,if_pos e1]
  have q:=(Qn (E:=E) (k:=1) (item:=fun s=>Fu s 4 (r.drop 1) E) acc 80 (by unfold D2; omega) r (fun s=>Ahr s E _ (fun x hx=>hl x (List.mem_of_mem_drop hx)))).1
  have ee:Int.toNat 1=1:=rfl
  simp only [ee,List.drop_drop,Nat.reduceAdd] at q ⊢
  exact q
theorem Ams (E:Int)(t:Token)(r:List Token)(v:List Volume)(acc:List Route)(h:acc.length≤64):Iv (t::r) E v acc=if 64≤acc.length then .pan ⟨64,.two .i64 .i64 t.At 2⟩ else(run E (Ej Xr r)).bind fun x=>.ok (x.2,acc++[x.1]):=by
 show(Hw 64 (t::r) E v acc).bind (fun r=>.ok r)=_
 rw [R.bind_ok]
 unfold Hw H3
 by_cases hf:64≤acc.length
 ·have e:((acc.length:Int)==64)=true:=by rw [beq_iff_eq]; omega
  rw [if_pos hf]
  simp only [e,if_true,Ju,R.pan_bind]
  rfl
 ·have e:((acc.length:Int)==64)=false:=by rw [beq_eq_false_iff_ne]; omega
  have e1:(0:Int)≤1∧1≤((t::r).length:Int):=by simp only [List.length_cons]; omega
  rw [if_neg hf]
  simp only [e,Bool.false_eq_true,if_false,if_pos e1]
  exact Ut (E:=E) (item:=fun s l=>E7 s l E v) (fun s l=>Aok s E l v) acc 112 (by unfold D2; omega) r
theorem Alu (E:Int)(t:Token)(r:List Token)(v:List Volume)(acc:List Sector)(h:acc.length≤64):It (t::r) E v acc=if 64≤acc.length then .pan ⟨64,.two .i64 .i64 t.At 2⟩ else(run E (Ej W2 r)).bind fun x=>.ok (x.2,acc++[x.1]):=by
 show(G8 64 (t::r) E v acc).bind (fun r=>.ok r)=_
 rw [R.bind_ok]
 unfold G8 Hl
 by_cases hf:64≤acc.length
 ·have e:((acc.length:Int)==64)=true:=by rw [beq_iff_eq]; omega
  rw [if_pos hf]
  simp only [e,if_true,Ju,R.pan_bind]
  rfl
 ·have e:((acc.length:Int)==64)=false:=by rw [beq_eq_false_iff_ne]; omega
  have e1:(0:Int)≤1∧1≤((t::r).length:Int):=by simp only [List.length_cons]; omega
  rw [if_neg hf]
  simp only [e,Bool.false_eq_true,if_false,if_pos e1]
  exact Ut (E:=E) (item:=fun s l=>E4 s l E v) (fun s l=>Aog s E l v) acc 80 (by unfold D2; omega) r
theorem Am2 (E:Int)(t:Token)(r:List Token)(v:List Volume)(acc:List Segment)(h:acc.length≤128):Ik (t::r) E v acc=if 128≤acc.length then .pan ⟨64,.two .i64 .i64 t.At 2⟩ else(run E (Ej Xc r)).bind fun x=>.ok (x.2,acc++[x.1]):=by
 show(Gv 128 (t::r) E v acc).bind (fun r=>.ok r)=_
 rw [R.bind_ok]
 unfold Gv G4
 by_cases hf:128≤acc.length
 ·have e:((acc.length:Int)==128)=true:=by rw [beq_iff_eq]; omega
  rw [if_pos hf]
  simp only [e,if_true,Ju,R.pan_bind]
  rfl
 ·have e:((acc.length:Int)==128)=false:=by rw [beq_eq_false_iff_ne]; omega
  have e1:(0:Int)≤1∧1≤((t::r).length:Int):=by simp only [List.length_cons]; omega
  rw [if_neg hf]
  simp only [e,Bool.false_eq_true,if_false,if_pos e1]
  exact Ut (E:=E) (item:=fun s l=>E2 s l E v) (fun s l=>An6 s E l v) acc 72 (by unfold D2; omega) r
theorem Amp (E:Int)(t:Token)(r:List Token)(acc:List Volume)(h:acc.length≤64):Im (t::r) E acc=if 64≤acc.length then .pan ⟨64,.two .i64 .i64 t.At 2⟩ else(run E (Ej Xj r)).bind fun x=>.ok (x.2,acc++[x.1]):=by
 show(G9 64 (t::r) E acc).bind (fun r=>.ok r)=_
 rw [R.bind_ok]
 unfold G9 Ho
 by_cases hf:64≤acc.length
 ·have e:((acc.length:Int)==64)=true:=by rw [beq_iff_eq]; omega
  rw [if_pos hf]
  simp only [e,if_true,Ju,R.pan_bind]
  rfl
 ·have e:((acc.length:Int)==64)=false:=by rw [beq_eq_false_iff_ne]; omega
  have e1:(0:Int)≤1∧1≤((t::r).length:Int):=by simp only [List.length_cons]; omega
  rw [if_neg hf]
  simp only [e,Bool.false_eq_true,if_false,if_pos e1]
  exact Ut (E:=E) (item:=fun s l=>E1 s l E acc) (fun s l=>Aot s E l acc) acc 40 (by unfold D2; omega) r
theorem Amj (E:Int)(t:Token)(r:List Token)(acc:List Rule)(h:acc.length≤64):H2 (t::r) E acc=if 64≤acc.length then .pan ⟨64,.two .i64 .i64 t.At 2⟩ else(run E (Ej Xa r)).bind fun x=>.ok (acc++[x.1]):=by
 show((Ic 64 (t::r) E acc 3).bind (fun r=>.ok r)).bind (fun r=>.ok r)=_
 rw [R.bind_ok,R.bind_ok]
 unfold Ic Ii
 by_cases hf:64≤acc.length
 ·have e:((acc.length:Int)==64)=true:=by rw [beq_iff_eq]; omega
  rw [if_pos hf]
  simp only [e,if_true,Ju,R.pan_bind]
  rfl
 ·have e:((acc.length:Int)==64)=false:=by rw [beq_eq_false_iff_ne]; omega
  have e1:(0:Int)≤1∧1≤((t::r).length:Int):=by simp only [List.length_cons]; omega
  rw [if_neg hf]
  simp only [e,Bool.false_eq_true,if_false,if_pos e1]
  have q:=(Qn (E:=E) (k:=1) (item:=fun s=>Fv s 3 (r.drop 1) E) acc 80 (by unfold D2; omega) r (fun s=>Ah8 s E _)).1
  have ee:Int.toNat 1=1:=rfl
  simp only [ee,List.drop_drop,Nat.reduceAdd] at q ⊢
  exact q
end Go.Am
namespace Go.Am
open Go
set_option linter.unusedVariables false
set_option linter.unusedSimpArgs false
def tup (x:Airspace×List Token):List Token×List Volume×List Sector×List Config×List Segment×List Route×List Airport×List Class×List Rule:=
 (x.2,x.1.Volumes,x.1.Sectors,x.1.Configs,x.1.Segments,x.1.Routes,x.1.Airports,x.1.Classes,x.1.Rules)
def G1 (A:Airspace):Prop:=A.Volumes.length≤64∧A.Sectors.length≤64∧A.Configs.length≤32∧A.Segments.length≤128∧A.Routes.length≤64∧A.Airports.length≤16∧A.Classes.length≤8∧A.Rules.length≤64
section
variable {α β:Type} {E:Int} {t:Token} {r:List Token} {acc:List α} {c:Prop} [Decidable c] {p:Au→Rd α} {upd:α→Airspace}
theorem Sp {x:R (List Token×List α)}{F:List Token×List α→R (List Token×List Volume×List Sector×List Config×List Segment×List Route×List Airport×List Class×List Rule)}
  (hx:x=if c then .pan ⟨64,.two .i64 .i64 t.At 2⟩ else(run E (Ej p r)).bind fun y=>.ok (y.2,acc++[y.1])) (hF : ∀ y l,F (l,acc++[y])=.ok (tup (upd y,l))) :
  x.bind F=(run E (if decide c=true then .error (t::r,2) else((Ej p).bind fun y=>.pure (upd y)) r)).bind fun z=>.ok (tup z):=by
 subst hx
 by_cases hc:c
 ·rw [if_pos hc,if_pos (decide_eq_true hc)]; rfl
 ·rw [if_neg hc,if_neg (by simpa using hc)]
  unfold Rd.bind
  cases Ej p r with
  | error e=>rfl
  | ok y=>exact hF _ _
theorem Wx {m:Nat}{x:R (List α)}{F:List α→R (List Token×List Volume×List Sector×List Config×List Segment×List Route×List Airport×List Class×List Rule)}
  (hx:x=if c then .pan ⟨64,.two .i64 .i64 t.At 2⟩ else(run E (Ej p r)).bind fun y=>.ok (acc++[y.1])) (hr : ∀ y q,Ej p r=.ok (y,q)→q=r.drop m) (hF : ∀ y,F (acc++[y])=.ok (tup (upd y,r.drop m))) :
  x.bind F=(run E (if decide c=true then .error (t::r,2) else((Ej p).bind fun y=>.pure (upd y)) r)).bind fun z=>.ok (tup z):=by
 subst hx
 by_cases hc:c
 ·rw [if_pos hc,if_pos (decide_eq_true hc)]; rfl
 ·rw [if_neg hc,if_neg (by simpa using hc)]
  unfold Rd.bind
  cases h:Ej p r with
  | error e=>rfl
  | ok y=>
   obtain⟨y,q⟩:=y
   have:=hr y q h
   subst this
   exact hF _
end
theorem Ajt (r:List Token) : ∀ x q,Ej Xt r=.ok (x,q)→q=r.drop 8:=
 (Qn (E:=0) (k:=6) (item:=fun s=>Fm s (r.drop 1) 0) ([]:List Class) 80 (by decide) r (fun s=>Aiw s 0 _)).2
theorem Ak0 (r:List Token) : ∀ x q,Ej Xo r=.ok (x,q)→q=r.drop 7:=
 (Qn (E:=0) (k:=5) (item:=fun s=>Fq s 1 (r.drop 1) 0) ([]:List Rule) 80 (by decide) r (fun s=>Ahz s 0 _)).2
theorem Aky (r:List Token) : ∀ x q,Ej Yp r=.ok (x,q)→q=r.drop 2:=
 (Qn (E:=0) (k:=0) (item:=fun s=>(Gy s 2).bind fun _=>.ok (U7 2 s [] 0 ⟨0,0⟩)) ([]:List Rule) 80 (by decide) r (fun s=>Qc _)).2
theorem Aj5 (r:List Token)(hl : ∀ x ∈ r,0≤x.N) : ∀ x q,Ej V2 r=.ok (x,q)→q=r.drop 3:=
 (Qn (E:=0) (k:=1) (item:=fun s=>Fu s 4 (r.drop 1) 0) ([]:List Rule) 80 (by decide) r (fun s=>Ahr s 0 _ (fun x hx=>hl x (List.mem_of_mem_drop hx)))).2
theorem Akc (r:List Token) : ∀ x q,Ej Xa r=.ok (x,q)→q=r.drop 3:=
 (Qn (E:=0) (k:=1) (item:=fun s=>Fv s 3 (r.drop 1) 0) ([]:List Rule) 80 (by decide) r (fun s=>Ah8 s 0 _)).2
theorem Anp (E:Int)(A:Airspace)(hA:G1 A)(t:Token)(r:List Token)(hl : ∀ x ∈ r,0≤x.N):Fo (t::r) E A.Volumes A.Sectors A.Configs A.Segments A.Routes A.Airports A.Classes A.Rules=(run E (Hn A (t::r))).bind fun x=>.ok (tup x):=by
 obtain⟨hVolumes,hSectors,hConfigs,hSegments,hRoutes,hAirports,hClasses,hRules⟩:=hA
 have e:En (t::r) 0=.ok t:=rfl
 have e1:Hn A (t::r)=(if(t.Kind==1)=true then(match Lc t.Text A with | none=>.error (t::r,80) | some (f,p)=>if f=true then .error (t::r,2) else p r) else .error (t::r,80)):=rfl
 rw [e1]
 unfold Fo Lc
 rw [e,R.ok_bind]
 by_cases hk:(t.Kind==1)=true
 ·rw [if_pos hk,if_pos hk]
  by_cases hair:(t.Text==[97,105,114,112,111,114,116])=true
  ·rw [if_pos hair,if_pos hair]
   exact Sp (upd:=fun x=>{ A with Airports:=A.Airports++[x] }) (Am8 E t r A.Volumes A.Airports hAirports) (fun _ _=>rfl)
  rw [if_neg hair,if_neg hair]
  by_cases hcla:(t.Text==[99,108,97,115,115])=true
  ·rw [if_pos hcla,if_pos hcla]
   exact Wx (upd:=fun x=>{ A with Classes:=A.Classes++[x] }) (Aly E t r A.Classes hClasses) (Ajt r) (fun _=>by simp only [show Int.toNat 1=1 from rfl,List.drop_drop,Nat.reduceAdd]; rfl)
  rw [if_neg hcla,if_neg hcla]
  by_cases hcon:(t.Text==[99,111,110,102,105,103])=true
  ·rw [if_pos hcon,if_pos hcon]
   exact Sp (upd:=fun x=>{ A with Configs:=A.Configs++[x] }) (Anb E t r A.Volumes A.Configs hConfigs) (fun _ _=>rfl)
  rw [if_neg hcon,if_neg hcon]
  by_cases hcur:(t.Text==[99,117,114,102,101,119])=true
  ·rw [if_pos hcur,if_pos hcur]
   exact Wx (upd:=fun x=>{ A with Rules:=A.Rules++[x] }) (Amh E t r A.Rules hRules) (Ak0 r) (fun _=>by simp only [show Int.toNat 1=1 from rfl,List.drop_drop,Nat.reduceAdd]; rfl)
  rw [if_neg hcur,if_neg hcur]
  by_cases hexe:(t.Text==[101,120,101,109,112,116])=true
  ·rw [if_pos hexe,if_pos hexe]
   exact Wx (upd:=fun x=>{ A with Rules:=A.Rules++[x] }) (Amm E t r A.Rules hRules) (Aky r) (fun _=>by simp only [show Int.toNat 1=1 from rfl,List.drop_drop,Nat.reduceAdd]; rfl)
  rw [if_neg hexe,if_neg hexe]
  by_cases hlon:(t.Text==[108,111,110,103,101,115,116])=true
  ·rw [if_pos hlon,if_pos hlon]
   exact Wx (upd:=fun x=>{ A with Rules:=A.Rules++[x] }) (Anm E t r hl A.Rules hRules) (Aj5 r hl) (fun _=>by simp only [show Int.toNat 1=1 from rfl,List.drop_drop,Nat.reduceAdd]; rfl)
  rw [if_neg hlon,if_neg hlon]
  by_cases hrou:(t.Text==[114,111,117,116,101])=true
  ·rw [if_pos hrou,if_pos hrou]
   exact Sp (upd:=fun x=>{ A with Routes:=A.Routes++[x] }) (Ams E t r A.Volumes A.Routes hRoutes) (fun _ _=>rfl)
  rw [if_neg hrou,if_neg hrou]
  by_cases hsec:(t.Text==[115,101,99,116,111,114])=true
  ·rw [if_pos hsec,if_pos hsec]
   exact Sp (upd:=fun x=>{ A with Sectors:=A.Sectors++[x] }) (Alu E t r A.Volumes A.Sectors hSectors) (fun _ _=>rfl)
  rw [if_neg hsec,if_neg hsec]
  by_cases hseg:(t.Text==[115,101,103,109,101,110,116])=true
  ·rw [if_pos hseg,if_pos hseg]
   exact Sp (upd:=fun x=>{ A with Segments:=A.Segments++[x] }) (Am2 E t r A.Volumes A.Segments hSegments) (fun _ _=>rfl)
  rw [if_neg hseg,if_neg hseg]
  by_cases hvol:(t.Text==[118,111,108,117,109,101])=true
  ·rw [if_pos hvol,if_pos hvol]
   exact Sp (upd:=fun x=>{ A with Volumes:=A.Volumes++[x] }) (Amp E t r A.Volumes hVolumes) (fun _ _=>rfl)
  rw [if_neg hvol,if_neg hvol]
  by_cases hwei:(t.Text==[119,101,105,103,104,116])=true
  ·rw [if_pos hwei,if_pos hwei]
   exact Wx (upd:=fun x=>{ A with Rules:=A.Rules++[x] }) (Amj E t r A.Rules hRules) (Akc r) (fun _=>by simp only [show Int.toNat 1=1 from rfl,List.drop_drop,Nat.reduceAdd]; rfl)
  rw [if_neg hwei,if_neg hwei]
  unfold Ex
  rw [Afo]; rfl
 ·rw [if_neg hk,if_neg hk]
  unfold Ex
  rw [Afo]; rfl
end Go.Am
namespace Go.Am
open Go
set_option linter.unusedVariables false
set_option linter.unusedSimpArgs false
def Jt {α:Type}(p:Rd α):Prop := ∀ l a q,p l=.ok (a,q)→q <:+ l
section
variable {α β:Type}
theorem B9 {p:Rd α}{f:α→Rd β}(hp:Jt p)(hf : ∀ a,Jt (f a)):Jt (p.bind f):=fun l b q h=>by
 obtain⟨a,m,h1,h2⟩:=Nf h
 exact(hf a m b q h2).trans (hp l a m h1)
theorem Ez (a:α):Jt (Rd.pure a):=fun l b q h=>by cases h; exact List.suffix_refl _
theorem Akd (e:Int):Jt (Rd.fail e:Rd α):=fun l b q h=>nomatch h
theorem Wh (q:Token→Bool):Jt (Ng q):=fun l a r h=>by
 obtain⟨rfl,_⟩:=Aga h
 exact List.suffix_cons _ _
theorem Ad4 (k:Int)(w:Au):Jt (M7 k w):=fun l a r h=>by
 cases l with
 | nil=>cases h; exact List.suffix_refl _
 | cons t l=>cases h; exact List.suffix_refl _
theorem O4:Jt Le:=B9 (Wh _) fun _=>Ez _
theorem Lg (k:Int)(w:Au):Jt (Kb k w):=B9 (Wh _) fun _=>Ez _
theorem Oq (a b c:Int):Jt (Ok a b c):=B9 (Wh _) fun _=>Ez _
theorem Aca:Jt Pe:=B9 (Oq _ _ _) fun _=>B9 (Lg _ _) fun _=>B9 (Oq _ _ _) fun _=>Ez _
theorem P4 {p:Rd α}(hp:Jt p) : ∀ (n:Nat) (acc:List α),Jt (Fi p n acc)
 | 0,acc=>by
  rw [Fi]
  refine B9 hp fun a=>B9 (Ad4 _ _) fun b=>?_
  cases b
  ·exact Ez _
  ·exact Akd _
 | n+1,acc=>by
  rw [Fi]
  refine B9 hp fun a=>B9 (Ad4 _ _) fun b=>?_
  cases b
  ·exact Ez _
  ·exact B9 (Lg _ _) fun _=>P4 hp n _
theorem Ack (w:Au):Jt (Tc w):=B9 (Ad4 _ _) fun b=>by
 cases b
 ·exact Ez _
 ·exact B9 (Lg _ _) fun _=>P4 Aca _ _
theorem Ai9:Jt S8:=B9 (Lg _ _) fun _=>B9 O4 fun _=>B9 (Oq _ _ _) fun _=>Ez _
theorem Am6 (s:Au):Jt (Xj s):=B9 (Ack _) fun _=>Ez _
theorem Am9 (s:Au):Jt (W2 s):=B9 (Lg _ _) fun _=>B9 (P4 O4 _ _) fun _=>B9 (Lg _ _) fun _=>B9 (Oq _ _ _) fun _=>B9 (Lg _ _) fun _=>B9 (Oq _ _ _) fun _=>Ez _
theorem Ami (s:Au):Jt (Xz s):=B9 (Lg _ _) fun _=>B9 (P4 O4 _ _) fun _=>Ez _
theorem Amg (s:Au):Jt (Xc s):=B9 (Lg _ _) fun _=>B9 O4 fun _=>B9 (Lg _ _) fun _=>B9 (Oq _ _ _) fun _=>B9 (Ack _) fun _=>Ez _
theorem Aln (s:Au):Jt (Xr s):=B9 (Lg _ _) fun _=>B9 O4 fun _=>B9 (Lg _ _) fun _=>B9 O4 fun _=>B9 (Lg _ _) fun _=>B9 (P4 O4 _ _) fun _=>Ez _
theorem Ank (s:Au):Jt (Xu s):=B9 (P4 Ai9 _ _) fun _=>Ez _
theorem Amf (s:Au):Jt (Xt s):=B9 (Lg _ _) fun _=>B9 (Oq _ _ _) fun _=>B9 (Lg _ _) fun _=>B9 (Oq _ _ _) fun _=>B9 (Lg _ _) fun _=>B9 (Oq _ _ _) fun _=>Ez _
theorem Alk (s:Au):Jt (Xo s):=B9 (Lg _ _) fun _=>B9 O4 fun _=>B9 Aca fun _=>Ez _
theorem Anq (s:Au):Jt (Yp s):=Ez _
theorem Amt (s:Au):Jt (Xa s):=B9 (Oq _ _ _) fun _=>Ez _
theorem Al2 (s:Au):Jt (V2 s):=B9 (Oq _ _ _) fun _=>Ez _
theorem Amq {p:Au→Rd α}(hp : ∀ s,Jt (p s)):Jt (Ej p):=B9 O4 fun s=>B9 (hp s) fun _=>B9 (Lg _ _) fun _=>Ez _
end
theorem Cb {c:Prop}[Decidable c]{α:Type}{a b:Option α}{y:α}(h:(if c then a else b)=some y):a=some y∨b=some y:=by
 by_cases hc:c
 ·rw [if_pos hc] at h; exact .inl h
 ·rw [if_neg hc] at h; exact .inr h
theorem Abr {w:Au}{A:Airspace}{f:Bool}{p:Rd Airspace}(h:Lc w A=some (f,p)):Jt p∧(G1 A→f=false → ∀ l B q,p l=.ok (B,q)→G1 B):=by
 unfold Lc at h
 refine(Cb h).elim (fun h=>?_) (fun h=>(Cb h).elim (fun h=>?_) (fun h=>(Cb h).elim (fun h=>?_) (fun h=>(Cb h).elim (fun h=>?_) (fun h=>(Cb h).elim (fun h=>?_) (fun h=>(Cb h).elim (fun h=>?_) (fun h=>(Cb h).elim (fun h=>?_) (fun h=>(Cb h).elim (fun h=>?_) (fun h=>(Cb h).elim (fun h=>?_) (fun h=>(Cb h).elim (fun h=>?_) (fun h=>(Cb h).elim (fun h=>?_) (fun h=>nomatch h)))))))))))
 all_goals
  cases h
  refine⟨B9 (Amq (by first | exact Ank | exact Amf | exact Ami | exact Alk | exact Anq | exact Al2 | exact Aln | exact Am9 | exact Amg | exact Am6 | exact Amt)) fun _=>Ez _,fun hF hf l B q hB=>?_⟩
  obtain⟨x,m,_,h2⟩:=Nf hB
  cases h2
  obtain⟨h1,h2,h3,h4,h5,h6,h7,h8⟩:=hF
  have hf:=of_decide_eq_false hf
  refine⟨?_,?_,?_,?_,?_,?_,?_,?_⟩ <;> first | assumption | (simp only [List.length_append,List.length_singleton]; omega)
theorem Aef {A:Airspace}{t:Token}{r:List Token}{B:Airspace}{q:List Token}(hA:G1 A)(h:Hn A (t::r)=.ok (B,q)):G1 B∧q <:+ r:=by
 simp only [Hn] at h
 split at h
 ·cases hi:Lc t.Text A with
  | none=>rw [hi] at h; cases h
  | some x=>
   obtain⟨f,p⟩:=x
   rw [hi] at h
   simp only at h
   cases f
   ·obtain⟨h1,h2⟩:=Abr hi
    exact⟨h2 hA rfl r B q h,h1 r B q h⟩
   ·cases h
 ·cases h
def Ji:Nat→Airspace→List Token→Except (List Token×Int) Airspace
 | _,A,[]=>.ok A
 | 0,A,t::r=>.error (t::r,0)
 | n+1,A,t::r=>match Hn A (t::r) with
  | .error e=>.error e
  | .ok (B,q)=>Ji n B q
def Ww:Airspace:={ Volumes:=[],Sectors:=[],Configs:=[],Segments:=[],Routes:=[],Airports:=[],Classes:=[],Rules:=[] }
def Ol (l:List Token):Except (List Token×Int) Airspace:=Ji l.length Ww l
def ps (A:Airspace)(l:List Token):=(l,A.Airports,A.Classes,A.Configs,A.Rules,A.Routes,A.Sectors,A.Segments,A.Volumes)
theorem Ag1 (src:Au) : ∀ (n:Nat) (A:Airspace) (l:List Token),l.length≤n→G1 A→(∀ x ∈ l,0≤x.N) →
  loop (Zz fun fL l l1 l2 l3 l4 l5 l6 l7=>I7 src fL l l1 l2 l3 l4 l5 l6 l7) (ps A l)=match Ji n A l with
   | .ok B=>.ok (ps B [])
   | .error (q,e)=>.pan ⟨64,.two .i64 .i64 (Ab6 (src.length:Int) q) e⟩:=by
 intro n
 induction n with
 | zero=>
  intro A l hl hA hN
  have:l=[]:=List.length_eq_zero_iff.1 (by omega)
  subst this
  rw [R9]; rfl
 | succ n ih=>
  intro A l hl hA hN
  rw [R9]
  cases l with
  | nil=>rfl
  | cons t r=>
   have e1:((t::r).length:Int) > 0:=by simp only [List.length_cons]; omega
   have hb:(Zz fun fL l l1 l2 l3 l4 l5 l6 l7=>I7 src fL l l1 l2 l3 l4 l5 l6 l7) (ps A (t::r))=(run (src.length:Int) (Hn A (t::r))).bind fun x=>.ok (.inl (ps x.1 x.2)):=by
    show I7 src (t::r) A.Airports A.Classes A.Configs A.Rules A.Routes A.Sectors A.Segments A.Volumes=_
    unfold I7
    rw [if_pos e1,Anp _ A hA t r fun x hx=>hN x (List.mem_cons_of_mem _ hx),R.bind_assoc]
    rfl
   rw [hb,Ji]
   cases hd:Hn A (t::r) with
   | error e=>rfl
   | ok y=>
    obtain⟨B,q⟩:=y
    obtain⟨hB,hq⟩:=Aef hA hd
    exact ih B q (by have:=hq.length_le; simp only [List.length_cons] at hl; omega) hB fun x hx=>hN x (List.mem_cons_of_mem _ (hq.subset hx))
def An1 (E:Int):Except (List Token×Int) Airspace→Airspace×Int×Int
 | .ok A=>(A,0,0)
 | .error (q,e)=>(Ww,Ab6 E q,e)
def Kq (s:Au):Airspace×Int×Int:=if(Gr s).2.2=0 then An1 (s.length:Int) (Ol (Gr s).1) else(Ww,(Gr s).2.1,(Gr s).2.2)
theorem Aje {s:Au}(hN : ∀ x ∈ (Gr s).1,0≤x.N):G5 s=.ok (Kq s):=by
 unfold G5 Qd Kq
 rw [Aoe,show(R.ok (Gr s)).np=R.ok (Gr s) from rfl,R.ok_bind]
 by_cases h:(Gr s).2.2=0
 ·rw [if_pos h,show((Gr s).2.2 != 0)=false by rw [h]; rfl]
  have:=Ag1 s _ Ww (Gr s).1 (Nat.le_refl _) ⟨by decide,by decide,by decide,by decide,by decide,by decide,by decide,by decide⟩ hN
  simp only [Bool.false_eq_true,if_false]
  rw [show((Gr s).1,([]:List Airport),([]:List Class),([]:List Config),([]:List Rule),([]:List Route),([]:List Sector),([]:List Segment),([]:List Volume))=ps Ww (Gr s).1 from rfl,this]
  unfold Ol
  cases Ji (Gr s).1.length Ww (Gr s).1 with
  | ok B=>rfl
  | error x=>rfl
 ·rw [if_neg h,if_pos (by simpa using h)]; rfl
end Go.Am
namespace Go.Am
open Go
set_option linter.unusedVariables false
set_option linter.unusedSimpArgs false
section
variable {E:Int} {L:List Token} (hL:L.length≤65536)
theorem O7 {α:Type}(q:Token→Bool)(f:Token→α)(t:Token)(r:List Token):((Ng q).bind fun t=>.pure (f t)) (t::r)=if q t=true then .ok (f t,r) else .error (t::r,80):=by
 by_cases h:q t=true
 ·rw [if_pos h]; simp only [Rd.bind,Ng,h,if_true]; rfl
 ·rw [if_neg h]; simp only [Rd.bind,Ng,h]; rfl
theorem Xi (k:Int)(w:Au)(t:Token)(r:List Token):Kb k w (t::r)=if Iz k w t=true then .ok ((),r) else .error (t::r,80):=O7 _ _ t r
include hL
omit hL
include hL
end
end Go.Am
namespace Go.Am
open Go
set_option linter.unusedVariables false
set_option linter.unusedSimpArgs false
end Go.Am
namespace Go.Am
open Go
set_option linter.unusedVariables false
set_option linter.unusedSimpArgs false
set_option linter.unusedSectionVars false
section
variable {α β γ:Type}
theorem Ajv (p:Rd α)(f:α→Rd β)(g:β→Rd γ):(p.bind f).bind g=p.bind fun a=>(f a).bind g:=by
 funext l
 simp only [Rd.bind]
 cases p l <;> rfl
theorem Anf (a:α)(f:α→Rd β):(Rd.pure a).bind f=f a:=rfl
end
end Go.Am
namespace Go.Am
open Go
set_option linter.unusedVariables false
set_option linter.unusedSimpArgs false
theorem Abo:G1 Ww:=⟨by decide,by decide,by decide,by decide,by decide,by decide,by decide,by decide⟩
end Go.Am
namespace Go.Am
open Go
set_option linter.unusedVariables false
set_option linter.unusedSimpArgs false
theorem Apk {c:UInt8}{s:Au}{t:Token}{k:Nat}(h:tk c s=some (some t,k)):0≤t.N:=by
 unfold tk at h
 repeat' split at h
 all_goals first
  | (simp only [Option.some.injEq,Prod.mk.injEq,reduceCtorEq,false_and] at h; done)
  | (simp only [Option.some.injEq,Prod.mk.injEq] at h; obtain⟨rfl,_⟩:=h; simp; done)
  | (exfalso; exact nomatch h)
theorem Acu : ∀ (n:Nat) (s:Au) (p:Nat) (l:List Token),s.length≤n→Ka s p=.ok l→l.length≤s.length ∧ ∀ t ∈ l,0≤t.N
 | n,[],p,l,_,h=>by rw [Xq] at h; cases h; exact⟨Nat.le_refl _,fun _ h=>nomatch h⟩
 | 0,_::_,_,_,hn,_=>by simp at hn
 | n+1,c::s,p,l,hn,h=>by
  rw [Nm] at h
  cases ht:tk c s with
  | none=>rw [ht] at h; cases h
  | some x=>
   obtain⟨o,k⟩:=x
   rw [ht] at h
   simp only at h
   cases hr:Ka (s.drop k) (p+1+k) with
   | wrong e=>rw [hr] at h; cases h
   | ok l'=>
    rw [hr] at h
    simp only [List.length_cons] at hn
    obtain⟨h1,h2⟩:=Acu n (s.drop k) (p+1+k) l' (by rw [List.length_drop]; omega) hr
    cases h
    rw [List.length_drop] at h1
    cases o with
    | none=>exact⟨by simp; omega,h2⟩
    | some t=>
     refine⟨by simp; omega,fun u hu=>?_⟩
     rcases List.mem_cons.1 hu with rfl | hu
     ·show 0≤t.N
      exact Apk ht
     ·exact h2 u hu
theorem Ae5 (s:Au):(Gr s).1.length≤65536∧(Gr s).1.length≤s.length ∧ ∀ t ∈ (Gr s).1,0≤t.N:=by
 unfold Gr
 split
 ·cases h:Ka s 0 with
  | wrong e=>exact⟨Nat.zero_le _,Nat.zero_le _,fun _ h=>nomatch h⟩
  | ok l=>
   obtain⟨h1,h2⟩:=Acu _ s 0 l (Nat.le_refl _) h
   exact⟨Nat.le_trans h1 ‹_›,h1,h2⟩
 ·exact⟨Nat.zero_le _,Nat.zero_le _,fun _ h=>nomatch h⟩
theorem Xy (s:Au):G5 s=.ok (Kq s):=Aje (Ae5 s).2.2
theorem J2 {α β:Type}(body:Nat→α→Unit→R (Unit ⊕ β))(L:List α)(h : ∀ j a,L[j]? = some a→body j a ()=.ok (.inl ())) : ∀ (l:List α) (k:Nat),L.drop k=l→each body k l ()=.ok (.inl ())
 | [],k,_=>rfl
 | a::l,k,e=>by
  rw [each,h k a (by have:=congrArg (·[0]?) e; simpa using this),R.ok_bind]
  exact J2 body L h l (k+1) (by have:=congrArg List.tail e; simpa using this)
theorem Pd {α:Type}{L:List α}{j:Nat}{a:α}(h:L[j]? = some a):En L (j:Int)=.ok a:=by
 unfold En
 rw [if_pos (by omega)]
 simp only [Int.toNat_natCast,h]
theorem Aaz (l:List Span):Mg l l=.ok true:=by
 unfold Mg
 rw [if_neg (by simp),J2 _ l (fun j a h=>by simp only [L1,Pd h,R.ok_bind,beq_self_eq_true,Bool.and_self,if_true]) l 0 rfl]; rfl
theorem X8 (l:List Au):Ke l l=.ok true:=by
 unfold Ke
 rw [if_neg (by simp),J2 _ l (fun j a h=>by simp only [Lw,Pd h,R.ok_bind,beq_self_eq_true,if_true]) l 0 rfl]; rfl
theorem Zc (l:List Int):Hb l l=.ok true:=by
 unfold Hb
 rw [if_neg (by simp),J2 _ l (fun j a h=>by simp only [Mo,Pd h,R.ok_bind,bne_self_eq_false,Bool.false_eq_true,if_false]) l 0 rfl]; rfl
theorem Afh (a:Airspace):O0 a a=.ok true:=by
 unfold O0
 rw [if_neg (by simp)]
 rw [J2 _ a.Volumes (fun j x h=>by simp only [Pa,Pd h,R.ok_bind,beq_self_eq_true,Bool.not_true,Bool.false_eq_true,if_false,Aaz,Pf]) a.Volumes 0 rfl]
 simp only [R.ok_bind,Dp]
 rw [J2 _ a.Sectors (fun j x h=>by simp only [Nh,Pd h,R.ok_bind,beq_self_eq_true,bne_self_eq_false,Bool.or_self,Bool.not_true,Bool.false_eq_true,if_false,X8,Zc]) a.Sectors 0 rfl]
 simp only [R.ok_bind,Dp]
 rw [J2 _ a.Configs (fun j x h=>by simp only [Ml,Pd h,R.ok_bind,beq_self_eq_true,bne_self_eq_false,Bool.or_self,Bool.not_true,Bool.false_eq_true,if_false,X8,Zc]) a.Configs 0 rfl]
 simp only [R.ok_bind,Dp]
 rw [J2 _ a.Segments (fun j x h=>by simp only [K0,Pd h,R.ok_bind,beq_self_eq_true,bne_self_eq_false,Bool.or_self,Bool.not_true,Bool.false_eq_true,if_false,Aaz]) a.Segments 0 rfl]
 simp only [R.ok_bind,Dp]
 rw [J2 _ a.Routes (fun j x h=>by simp only [Jp,Pd h,R.ok_bind,beq_self_eq_true,bne_self_eq_false,Bool.or_self,Bool.not_true,Bool.false_eq_true,if_false,X8,Zc]) a.Routes 0 rfl]
 simp only [R.ok_bind,Dp]
 rw [J2 _ a.Airports (fun j x h=>by
  simp only [H4,Pd h,R.ok_bind,beq_self_eq_true,bne_self_eq_false,Bool.or_self,Bool.not_true,Bool.false_eq_true,if_false]
  rw [J2 _ x.Modes (fun j y h=>by simp only [Pc,Pd h,R.ok_bind,beq_self_eq_true,Bool.and_self,if_true]) x.Modes 0 rfl]; rfl) a.Airports 0 rfl]
 simp only [R.ok_bind,Dp]
 rw [J2 _ a.Classes (fun j x h=>by simp only [G3,Pd h,R.ok_bind,beq_self_eq_true,Bool.and_self,if_true]) a.Classes 0 rfl]
 simp only [R.ok_bind,Dp]
 rw [J2 _ a.Rules (fun j x h=>by simp only [Gc,Pd h,R.ok_bind,beq_self_eq_true,Bool.and_self,if_true]) a.Rules 0 rfl]
 simp only [R.ok_bind,Dp]
set_option maxRecDepth 100000 in
theorem Aj2 : Rw = .ok true := by
 unfold Rw
 simp only [Xy, R.ok_bind]
 decide +kernel
end Go.Am
namespace Go.Am
open Go
set_option linter.unusedVariables false
set_option linter.unusedSimpArgs false
def Rh (t:Token):Token:={ t with At:=0 }
def Ao0 {α:Type}:PR α→PR α
 | .ok (a,r)=>.ok (a,r.map Rh)
 | .error (r,e)=>.error (r.map Rh,e)
def J9 {α:Type}(p:Rd α):Prop := ∀ l,p (l.map Rh)=Ao0 (p l)
section
variable {α β:Type}
theorem Ch {p:Rd α}{f:α→Rd β}(hp:J9 p)(hf : ∀ a,J9 (f a)):J9 (p.bind f):=fun l=>by
 unfold Rd.bind
 rw [hp l]
 cases h:p l with
 | error x=>rfl
 | ok y=>exact hf y.1 y.2
theorem Hg (a:α):J9 (Rd.pure a):=fun l=>rfl
theorem Ajb (e:Int):J9 (Rd.fail e:Rd α):=fun l=>rfl
theorem Abs {q:Token→Bool}{f:Token→α}(hq : ∀ t,q (Rh t)=q t)(hf : ∀ t,f (Rh t)=f t):J9 ((Ng q).bind fun t=>.pure (f t)):=fun l=>by
 cases l with
 | nil=>rfl
 | cons t l=>
  rw [List.map_cons,O7,O7,hq,hf]
  split <;> rfl
theorem Aed (k:Int)(w:Au):J9 (M7 k w):=fun l=>by cases l <;> rfl
theorem O8:J9 Le:=Abs (fun _=>rfl) fun _=>rfl
theorem Li (k:Int)(w:Au):J9 (Kb k w):=Abs (fun _=>rfl) fun _=>rfl
theorem Oo (a b c:Int):J9 (Ok a b c):=Abs (fun _=>rfl) fun _=>rfl
theorem Acv:J9 Pe:=Ch (Oo _ _ _) fun _=>Ch (Li _ _) fun _=>Ch (Oo _ _ _) fun _=>Hg _
theorem Qf {p:Rd α}(hp:J9 p) : ∀ (n:Nat) (acc:List α),J9 (Fi p n acc)
 | 0,acc=>by
  rw [Fi]
  refine Ch hp fun a=>Ch (Aed _ _) fun b=>?_
  cases b
  ·exact Hg _
  ·exact Ajb _
 | n+1,acc=>by
  rw [Fi]
  refine Ch hp fun a=>Ch (Aed _ _) fun b=>?_
  cases b
  ·exact Hg _
  ·exact Ch (Li _ _) fun _=>Qf hp n _
theorem Acz (w:Au):J9 (Tc w):=Ch (Aed _ _) fun b=>by
 cases b
 ·exact Hg _
 ·exact Ch (Li _ _) fun _=>Qf Acv _ _
theorem Akm:J9 S8:=Ch (Li _ _) fun _=>Ch O8 fun _=>Ch (Oo _ _ _) fun _=>Hg _
theorem Alt (s:Au):J9 (Xj s):=Ch (Acz _) fun _=>Hg _
theorem Alp (s:Au):J9 (W2 s):=Ch (Li _ _) fun _=>Ch (Qf O8 _ _) fun _=>Ch (Li _ _) fun _=>Ch (Oo _ _ _) fun _=>Ch (Li _ _) fun _=>Ch (Oo _ _ _) fun _=>Hg _
theorem Al4 (s:Au):J9 (Xz s):=Ch (Li _ _) fun _=>Ch (Qf O8 _ _) fun _=>Hg _
theorem Amo (s:Au):J9 (Xc s):=Ch (Li _ _) fun _=>Ch O8 fun _=>Ch (Li _ _) fun _=>Ch (Oo _ _ _) fun _=>Ch (Acz _) fun _=>Hg _
theorem Alg (s:Au):J9 (Xr s):=Ch (Li _ _) fun _=>Ch O8 fun _=>Ch (Li _ _) fun _=>Ch O8 fun _=>Ch (Li _ _) fun _=>Ch (Qf O8 _ _) fun _=>Hg _
theorem Alx (s:Au):J9 (Xu s):=Ch (Qf Akm _ _) fun _=>Hg _
theorem Am5 (s:Au):J9 (Xt s):=Ch (Li _ _) fun _=>Ch (Oo _ _ _) fun _=>Ch (Li _ _) fun _=>Ch (Oo _ _ _) fun _=>Ch (Li _ _) fun _=>Ch (Oo _ _ _) fun _=>Hg _
theorem Anl (s:Au):J9 (Xo s):=Ch (Li _ _) fun _=>Ch O8 fun _=>Ch Acv fun _=>Hg _
theorem Amx (s:Au):J9 (Yp s):=Hg _
theorem Am3 (s:Au):J9 (Xa s):=Ch (Oo _ _ _) fun _=>Hg _
theorem Al5 (s:Au):J9 (V2 s):=Ch (Oo _ _ _) fun _=>Hg _
theorem Am7 {p:Au→Rd α}(hp : ∀ s,J9 (p s)):J9 (Ej p):=Ch O8 fun s=>Ch (hp s) fun _=>Ch (Li _ _) fun _=>Hg _
end
theorem Akx {w:Au}{A:Airspace}{f:Bool}{p:Rd Airspace}(h:Lc w A=some (f,p)):J9 p:=by
 unfold Lc at h
 refine(Cb h).elim (fun h=>?_) (fun h=>(Cb h).elim (fun h=>?_) (fun h=>(Cb h).elim (fun h=>?_) (fun h=>(Cb h).elim (fun h=>?_) (fun h=>(Cb h).elim (fun h=>?_) (fun h=>(Cb h).elim (fun h=>?_) (fun h=>(Cb h).elim (fun h=>?_) (fun h=>(Cb h).elim (fun h=>?_) (fun h=>(Cb h).elim (fun h=>?_) (fun h=>(Cb h).elim (fun h=>?_) (fun h=>(Cb h).elim (fun h=>?_) (fun h=>nomatch h)))))))))))
 all_goals
  cases h
  exact Ch (Am7 (by first | exact Alx | exact Am5 | exact Al4 | exact Anl | exact Amx | exact Al5 | exact Alg | exact Alp | exact Amo | exact Alt | exact Am3)) fun _=>Hg _
theorem Ako (A:Airspace):J9 (Hn A):=fun l=>by
 cases l with
 | nil=>rfl
 | cons t l=>
  show Hn A (Rh t::l.map Rh)=_
  simp only [Hn,show(Rh t).Kind=t.Kind from rfl,show(Rh t).Text=t.Text from rfl]
  split
  ·cases h:Lc t.Text A with
   | none=>rfl
   | some x=>
    obtain⟨f,p⟩:=x
    cases f
    ·exact Akx h l
    ·rfl
  ·rfl
def Anz:Except (List Token×Int) Airspace→Except (List Token×Int) Airspace
 | .ok a=>.ok a
 | .error (r,e)=>.error (r.map Rh,e)
theorem Afw : ∀ (n:Nat) (A:Airspace) (l:List Token),Ji n A (l.map Rh)=Anz (Ji n A l)
 | 0,A,[]=>rfl
 | _+1,A,[]=>rfl
 | 0,A,t::r=>rfl
 | n+1,A,t::r=>by
  have h:=Ako A (t::r)
  rw [List.map_cons] at h ⊢
  rw [Ji,Ji,h]
  cases hd:Hn A (t::r) with
  | error e=>rfl
  | ok y=>exact Afw n y.1 y.2
theorem Acr (l:List Token):Ol (l.map Rh)=Anz (Ol l):=by
 unfold Ol
 rw [List.length_map]
 exact Afw _ _ _
end Go.Am
namespace Go.Am
open Go
set_option linter.unusedVariables false
set_option linter.unusedSimpArgs false
def Ajq {α β:Type}(q:α→β→Bool):List α→List β→Bool
 | [],[]=>true
 | a::l,b::m=>q a b&&Ajq q l m
 | _,_=>false
def key (a b:Token):Bool:=(a.Kind==b.Kind)&&(a.Text==b.Text)&&(a.N==b.N)
def same (a b:List Token):Bool:=Ajq key a b
def equal (a b:List Token):Bool:=same a b&&Ajq (fun x y:Token=>x.At==y.At) a b
end Go.Am
namespace Go.Am
open Go
set_option linter.unusedVariables false
set_option linter.unusedSimpArgs false
end Go.Am
namespace Go.Am
open Go
set_option linter.unusedVariables false
set_option linter.unusedSimpArgs false
theorem Zr {α:Type}{q:α→Bool}{d:α}(hd:q d=false)(m:List α) : ∀ s:List α,(s++d::m).takeWhile q=s.takeWhile q
 | []=>by rw [List.nil_append,List.takeWhile_cons,hd]; rfl
 | a::s=>by
  rw [List.cons_append,List.takeWhile_cons,List.takeWhile_cons,Zr hd m s]
theorem Ala {α:Type}{q:α→Bool}(m:List α) : ∀ s:List α,(s.takeWhile q).length≠s.length→(s++m).takeWhile q=s.takeWhile q
 | [],h=>absurd rfl h
 | a::s,h=>by
  rw [List.cons_append,List.takeWhile_cons,List.takeWhile_cons]
  cases hq:q a
  ·rfl
  ·rw [List.takeWhile_cons,hq] at h
   rw [Ala m s (by simpa using h)]
def com (c:UInt8)(s:Au):Prop:=c=47∧s.head? = some 47
theorem Akj {d:UInt8}(hd:d≠47)(m s:Au):(s++d::m).head? = some 47↔s.head? = some 47:=by
 cases s with
 | nil=>simp [hd]
 | cons a s=>simp
theorem Aov {c d:UInt8}{s m:Au}(hd:Nw d=true)(h:d=10∨¬ com c s∨(s.takeWhile (· != 10)).length≠s.length):tk c (s++d::m)=tk c s:=by
 obtain⟨h1,h2,h3⟩:=An2 hd
 unfold tk
 rw [Zr h1,Zr h2]
 simp only [Akj h3]
 by_cases hc:c=47∧s.head? = some 47
 ·simp only [hc,and_self,if_true]
  have e:(s++d::m).takeWhile (· != 10)=s.takeWhile (· != 10):=by
   rcases h with h | h | h
   ·subst h; exact Zr (by rfl) m s
   ·exact absurd hc h
   ·exact Ala _ _ h
  rw [e]
 ·simp only [hc,if_false]
theorem Ajf {α:Type}{s m:List α}{k:Nat}(h:k≤s.length):(s++m).drop k=s.drop k++m:=by
 rw [List.drop_append_of_le_length h]
def Lx.pre (l:List Token):Lx→Lx
 | .ok r=>.ok (l++r)
 | .wrong e=>.wrong e
def Lx.seq (x:Lx)(y:Lx):Lx:=match x with
 | .ok l=>y.pre l
 | .wrong e=>.wrong e
theorem Lx.add_seq (o:Option Token)(p:Nat)(x y:Lx):(x.add o p).seq y=(x.seq y).add o p:=by
 cases x <;> cases y <;> simp [Lx.add,Lx.seq,Lx.pre]
theorem Af3 (b:Au) : ∀ (n:Nat) (a:Au) (p:Nat),a.length≤n→Ka (a++10::b) p=(Ka a p).seq (Ka b (p+a.length+1))
 | n,[],p,_=>by
  rw [List.nil_append,Nm,Ak8 _ (by rfl),Xq]
  simp only [List.drop_zero,Lx.add_none,Lx.seq,List.length_nil,Nat.add_zero]
  cases Ka b (p+1) <;> rfl
 | 0,_::_,p,h=>by simp at h
 | n+1,c::s,p,h=>by
  rw [List.cons_append,Nm,Nm,Aov (by rfl) (.inl rfl)]
  cases ht:tk c s with
  | none=>rfl
  | some x=>
   obtain⟨o,k⟩:=x
   have hk:=Ahg ht
   simp only
   rw [Ajf hk,Af3 b n (s.drop k) _ (by rw [List.length_drop]; simp at h; omega),Lx.add_seq,List.length_drop,List.length_cons]
   rw [show p+1+k+(s.length - k)+1=p+(s.length+1)+1 by omega]
def Lx.sh (q:Nat):Lx→Lx
 | .ok l=>.ok (l.map fun t=>{ t with At:=t.At+(q:Int) })
 | .wrong e=>.wrong (e+q)
theorem Af9 (q:Nat) : ∀ (n:Nat) (s:Au) (p:Nat),s.length≤n→Ka s (p+q)=(Ka s p).sh q
 | n,[],p,_=>rfl
 | 0,_::_,p,h=>by simp at h
 | n+1,c::s,p,h=>by
  rw [Nm,Nm]
  cases ht:tk c s with
  | none=>rfl
  | some x=>
   obtain⟨o,k⟩:=x
   simp only
   rw [show p+q+1+k=(p+1+k)+q by omega,Af9 q n (s.drop k) _ (by rw [List.length_drop]; simp at h; omega)]
   cases Ka (s.drop k) (p+1+k) with
   | wrong e=>rfl
   | ok l=>cases o <;> simp [Lx.sh,Lx.add,at']
theorem Afr : ∀ (n:Nat) (s:Au) (p:Nat) (l:List Token),s.length≤n→Ka s p=.ok l → ∀ t ∈ l,∃ m:Nat,t.At=(m:Int)∧p≤m∧m<p+s.length
 | n,[],p,l,_,h=>by rw [Xq] at h; cases h; intro t ht; cases ht
 | 0,_::_,p,l,h,_=>by simp at h
 | n+1,c::s,p,l,hn,h=>by
  rw [Nm] at h
  cases ht:tk c s with
  | none=>rw [ht] at h; cases h
  | some x=>
   obtain⟨o,k⟩:=x
   have hk:=Ahg ht
   rw [ht] at h
   simp only at h
   cases hr:Ka (s.drop k) (p+1+k) with
   | wrong e=>rw [hr] at h; cases h
   | ok r=>
    rw [hr] at h
    simp only [Lx.add,Lx.ok.injEq] at h
    subst h
    intro t ht
    rcases List.mem_append.1 ht with ht | ht
    ·cases o with
     | none=>cases ht
     | some u=>
      simp at ht
      exact⟨p,by rw [ht]; rfl,Nat.le_refl _,by rw [List.length_cons]; omega⟩
    ·obtain⟨m,h1,h2,h3⟩:=Afr n (s.drop k) _ r (by rw [List.length_drop]; simp at hn; omega) hr t ht
     rw [List.length_drop] at h3
     exact⟨m,h1,by omega,by rw [List.length_cons]; omega⟩
theorem Aos (l:List Token):out (.ok l)=(l,0,0):=rfl
theorem Ahq (e:Nat):out (.wrong e)=([],(e:Int),70):=rfl
theorem Yu {s:Au}(h:s.length≤65536):Gr s=out (Ka s 0):=by unfold Gr; rw [if_pos h]
end Go.Am
namespace Go.Am
open Go
set_option linter.unusedVariables false
set_option linter.unusedSimpArgs false
end Go.Am
namespace Go.Am
open Go
set_option linter.unusedVariables false
set_option linter.unusedSimpArgs false
end Go.Am
namespace Go.Am
open Go
set_option linter.unusedVariables false
set_option linter.unusedSimpArgs false
theorem Z6 {s:Au}{l:List Token}(hs:s.length≤65536)(h:Ka s 0=.ok l):Kq s=An1 (s.length:Int) (Ol l):=by
 unfold Kq
 rw [Yu hs,h,Aos]
 rfl
theorem Adg {s:Au}(h:(Gr s).2.2≠0):Kq s=(Ww,(Gr s).2.1,(Gr s).2.2):=by
 unfold Kq
 rw [if_neg h]
end Go.Am
namespace Go.Am
open Go
set_option linter.unusedVariables false
set_option linter.unusedSimpArgs false
structure Fine {α:Type}(p:Rd α):Prop where
 sub:Jt p
 err : ∀ l q e,p l=.error (q,e)→q <:+ l∧(e=80∨e=2∧q≠[])
 loc : ∀ c m a,p (c++m)=.ok (a,m) → ∀ m1 q,m=m1++q→p (c++m1)=.ok (a,m1)
 cut : ∀ c q e,p (c++q)=.error (q,e)→(∃ a,p c=.ok (a,[]))∨p c=.error ([],80)
 nil:(∃ a,p []=.ok (a,[]))∨p []=.error ([],80)
section
variable {α β:Type}
theorem Xk {α:Type}{c m:List α}(h:c++m=m):c=[]:=by
 have:=congrArg List.length h
 rw [List.length_append] at this
 exact List.length_eq_zero_iff.1 (by omega)
theorem F7 (a:α):Fine (Rd.pure a) where
 sub:=Ez a
 err:=fun _ _ _ h=>nomatch h
 loc:=fun c m b h m1 q e=>by
  have h1:c++m=m:=by injection h with h; injection h
  have h2:a=b:=by injection h with h; injection h
  rw [Xk h1,h2]; rfl
 cut:=fun _ _ _ h=>nomatch h
 nil:=.inl ⟨a,rfl⟩
theorem Cg {p:Rd α}{f:α→Rd β}(hp:Fine p)(hf : ∀ a,Fine (f a)):Fine (p.bind f) where
 sub:=B9 hp.sub fun a=>(hf a).sub
 err:=fun l q e h=>by
  unfold Rd.bind at h
  cases h1:p l with
  | error x=>rw [h1] at h; cases h; exact hp.err l q e h1
  | ok y=>
   rw [h1] at h
   obtain⟨h2,h3⟩:=(hf y.1).err y.2 q e h
   exact⟨h2.trans (hp.sub l y.1 y.2 h1),h3⟩
 loc:=fun c m b h m1 q e=>by
  obtain⟨a,k,h1,h2⟩:=Nf h
  obtain⟨d,hd⟩:=(hf a).sub k b m h2
  obtain⟨c',hc⟩:=hp.sub (c++m) a k h1
  have hk:c=c'++d:=by
   rw [← hd,← List.append_assoc] at hc
   exact(List.append_cancel_right hc).symm
  subst hk
  rw [← hd,List.append_assoc] at h1
  have h3:=hp.loc c' (d++m) a h1 (d++m1) q (by rw [e,List.append_assoc])
  rw [← hd] at h2
  have h4:=(hf a).loc d m b h2 m1 q e
  unfold Rd.bind
  rw [List.append_assoc,h3]
  exact h4
 cut:=fun c q e h=>by
  unfold Rd.bind at h ⊢
  cases h1:p (c++q) with
  | error x=>
   rw [h1] at h
   cases h
   rcases hp.cut c q e h1 with⟨a,ha⟩ | ha
   ·rw [ha]; exact(hf a).nil
   ·rw [ha]; exact .inr rfl
  | ok y=>
   obtain⟨a,k⟩:=y
   rw [h1] at h
   obtain⟨d,hd⟩:=((hf a).err k q e h).1
   obtain⟨c',hc⟩:=hp.sub (c++q) a k h1
   have hk:c=c'++d:=by
    rw [← hd,← List.append_assoc] at hc
    exact(List.append_cancel_right hc).symm
   subst hk
   rw [← hd,List.append_assoc] at h1
   have h3:=hp.loc c' (d++q) a h1 d q rfl
   rw [h3]
   rw [← hd] at h
   exact(hf a).cut d q e h
 nil:=by
  unfold Rd.bind
  rcases hp.nil with⟨a,ha⟩ | ha
  ·rw [ha]; exact(hf a).nil
  ·rw [ha]; exact .inr rfl
theorem Aac {q:Token→Bool}{f:Token→α}:Fine ((Ng q).bind fun t=>.pure (f t)) where
 sub:=B9 (Wh _) fun _=>Ez _
 err:=fun l r e h=>by
  cases l with
  | nil=>cases h; exact⟨List.suffix_refl _,.inl rfl⟩
  | cons t l=>
   rw [O7] at h
   split at h
   ·cases h
   ·cases h; exact⟨List.suffix_refl _,.inl rfl⟩
 loc:=fun c m a h m1 r e=>by
  cases c with
  | nil=>
   cases m with
   | nil=>cases h
   | cons t m=>
    rw [List.nil_append,O7] at h
    split at h
    ·injection h with h; injection h with _ h
     exact absurd (congrArg List.length h) (by simp)
    ·cases h
  | cons t c=>
   rw [List.cons_append,O7] at h ⊢
   split at h
   ·rename_i hq
    injection h with h; injection h with h1 h2
    rw [if_pos hq,Xk h2,h1]; rfl
   ·cases h
 cut:=fun c r e h=>by
  cases c with
  | nil=>exact .inr rfl
  | cons t c=>
   rw [List.cons_append,O7] at h
   split at h
   ·cases h
   ·injection h with h; injection h with h _
    have:=congrArg List.length h
    simp at this
    omega
 nil:=.inr rfl
theorem Adm {k:Int}{w:Au}{p1 p2:Rd α}(h1:Fine p1)(h2:Fine p2):Fine ((M7 k w).bind fun b=>if b=true then(Kb k w).bind fun _=>p1 else p2):=by
 have eN:((M7 k w).bind fun b=>if b=true then(Kb k w).bind fun _=>p1 else p2) []=p2 []:=rfl
 have eY : ∀ t l,Iz k w t=true→((M7 k w).bind fun b=>if b=true then(Kb k w).bind fun _=>p1 else p2) (t::l)=p1 l:=fun t l ht=>by
  simp only [Rd.bind,M7,ht,if_true]; rw [Xi,if_pos ht]
 have eF : ∀ t l,¬ Iz k w t=true→((M7 k w).bind fun b=>if b=true then(Kb k w).bind fun _=>p1 else p2) (t::l)=p2 (t::l):=fun t l ht=>by
  simp only [Rd.bind,M7,ht,if_false,Bool.false_eq_true]
 refine⟨fun l a q h=>?_,fun l q e h=>?_,fun c m a h m1 q e=>?_,fun c q e h=>?_,?_⟩
 ·cases l with
  | nil=>rw [eN] at h; exact h2.sub _ _ _ h
  | cons t l=>
   by_cases ht:Iz k w t=true
   ·rw [eY t l ht] at h; exact(h1.sub _ _ _ h).trans (List.suffix_cons _ _)
   ·rw [eF t l ht] at h; exact h2.sub _ _ _ h
 ·cases l with
  | nil=>rw [eN] at h; exact h2.err _ _ _ h
  | cons t l=>
   by_cases ht:Iz k w t=true
   ·rw [eY t l ht] at h; exact⟨((h1.err _ _ _ h).1).trans (List.suffix_cons _ _),(h1.err _ _ _ h).2⟩
   ·rw [eF t l ht] at h; exact h2.err _ _ _ h
 ·cases c with
  | nil=>
   rw [List.nil_append] at h ⊢
   cases m with
   | nil=>
    obtain⟨rfl,rfl⟩:=List.append_eq_nil_iff.1 e.symm
    exact h
   | cons t m=>
    by_cases ht:Iz k w t=true
    ·rw [eY t m ht] at h
     have:=(h1.sub _ _ _ h).length_le
     simp at this
     omega
    ·rw [eF t m ht] at h
     have h3:=h2.loc [] (t::m) a h m1 q e
     cases m1 with
     | nil=>rw [eN]; exact h3
     | cons u m1=>
      have:t=u:=by injection e
      subst this
      rw [eF t m1 ht]; exact h3
  | cons t c=>
   rw [List.cons_append] at h ⊢
   by_cases ht:Iz k w t=true
   ·rw [eY _ _ ht] at h ⊢
    exact h1.loc c m a h m1 q e
   ·rw [eF _ _ ht] at h ⊢
    exact h2.loc (t::c) m a h m1 q e
 ·cases c with
  | nil=>rw [eN]; exact h2.nil
  | cons t c=>
   rw [List.cons_append] at h
   by_cases ht:Iz k w t=true
   ·rw [eY _ _ ht] at h ⊢
    exact h1.cut c q e h
   ·rw [eF _ _ ht] at h ⊢
    exact h2.cut (t::c) q e h
 ·rw [eN]; exact h2.nil
end
end Go.Am
namespace Go.Am
open Go
set_option linter.unusedVariables false
set_option linter.unusedSimpArgs false
section
variable {α β:Type}
theorem Aii {k:Int}{w:Au}{p2:Rd α}(h2:Fine p2):Fine ((M7 k w).bind fun b=>if b=true then .fail 2 else p2):=by
 have eN:((M7 k w).bind fun b=>if b=true then(.fail 2:Rd α) else p2) []=p2 []:=rfl
 have eY : ∀ t l,Iz k w t=true→((M7 k w).bind fun b=>if b=true then(.fail 2:Rd α) else p2) (t::l)=.error (t::l,2):=fun t l ht=>by
  simp only [Rd.bind,M7,ht,if_true]; rfl
 have eF : ∀ t l,¬ Iz k w t=true→((M7 k w).bind fun b=>if b=true then(.fail 2:Rd α) else p2) (t::l)=p2 (t::l):=fun t l ht=>by
  simp only [Rd.bind,M7,ht,if_false,Bool.false_eq_true]
 refine⟨fun l a q h=>?_,fun l q e h=>?_,fun c m a h m1 q e=>?_,fun c q e h=>?_,?_⟩
 ·cases l with
  | nil=>rw [eN] at h; exact h2.sub _ _ _ h
  | cons t l=>
   by_cases ht:Iz k w t=true
   ·rw [eY t l ht] at h; cases h
   ·rw [eF t l ht] at h; exact h2.sub _ _ _ h
 ·cases l with
  | nil=>rw [eN] at h; exact h2.err _ _ _ h
  | cons t l=>
   by_cases ht:Iz k w t=true
   ·rw [eY t l ht] at h; cases h; exact⟨List.suffix_refl _,.inr ⟨rfl,by simp⟩⟩
   ·rw [eF t l ht] at h; exact h2.err _ _ _ h
 ·cases c with
  | nil=>
   rw [List.nil_append] at h ⊢
   cases m with
   | nil=>
    obtain⟨rfl,rfl⟩:=List.append_eq_nil_iff.1 e.symm
    exact h
   | cons t m=>
    by_cases ht:Iz k w t=true
    ·rw [eY t m ht] at h; cases h
    ·rw [eF t m ht] at h
     have h3:=h2.loc [] (t::m) a h m1 q e
     cases m1 with
     | nil=>rw [eN]; exact h3
     | cons u m1=>
      have:t=u:=by injection e
      subst this
      rw [eF t m1 ht]; exact h3
  | cons t c=>
   rw [List.cons_append] at h ⊢
   by_cases ht:Iz k w t=true
   ·rw [eY _ _ ht] at h; cases h
   ·rw [eF _ _ ht] at h ⊢
    exact h2.loc (t::c) m a h m1 q e
 ·cases c with
  | nil=>rw [eN]; exact h2.nil
  | cons t c=>
   rw [List.cons_append] at h
   by_cases ht:Iz k w t=true
   ·rw [eY _ _ ht] at h
    injection h with h; injection h with h _
    have:=congrArg List.length h
    simp at this
    omega
   ·rw [eF _ _ ht] at h ⊢
    exact h2.cut (t::c) q e h
 ·rw [eN]; exact h2.nil
theorem Np:Fine Le:=Aac
theorem Kx (k:Int)(w:Au):Fine (Kb k w):=Aac
theorem Nb (a b c:Int):Fine (Ok a b c):=Aac
theorem Abh:Fine Pe:=Cg (Nb _ _ _) fun _=>Cg (Kx _ _) fun _=>Cg (Nb _ _ _) fun _=>F7 _
theorem Pj {p:Rd α}(hp:Fine p) : ∀ (n:Nat) (acc:List α),Fine (Fi p n acc)
 | 0,acc=>by
  rw [Fi]
  exact Cg hp fun a=>Aii (F7 _)
 | n+1,acc=>by
  rw [Fi]
  exact Cg hp fun a=>Adm (Pj hp n _) (F7 _)
theorem Aaq (w:Au):Fine (Tc w):=Adm (Pj Abh _ _) (F7 _)
theorem Ahl:Fine S8:=Cg (Kx _ _) fun _=>Cg Np fun _=>Cg (Nb _ _ _) fun _=>F7 _
theorem Ajl (s:Au):Fine (Xj s):=Cg (Aaq _) fun _=>F7 _
theorem Ajz (s:Au):Fine (W2 s):=Cg (Kx _ _) fun _=>Cg (Pj Np _ _) fun _=>Cg (Kx _ _) fun _=>Cg (Nb _ _ _) fun _=>Cg (Kx _ _) fun _=>Cg (Nb _ _ _) fun _=>F7 _
theorem Akn (s:Au):Fine (Xz s):=Cg (Kx _ _) fun _=>Cg (Pj Np _ _) fun _=>F7 _
theorem Aj1 (s:Au):Fine (Xc s):=Cg (Kx _ _) fun _=>Cg Np fun _=>Cg (Kx _ _) fun _=>Cg (Nb _ _ _) fun _=>Cg (Aaq _) fun _=>F7 _
theorem Aku (s:Au):Fine (Xr s):=Cg (Kx _ _) fun _=>Cg Np fun _=>Cg (Kx _ _) fun _=>Cg Np fun _=>Cg (Kx _ _) fun _=>Cg (Pj Np _ _) fun _=>F7 _
theorem Aka (s:Au):Fine (Xu s):=Cg (Pj Ahl _ _) fun _=>F7 _
theorem Ajd (s:Au):Fine (Xt s):=Cg (Kx _ _) fun _=>Cg (Nb _ _ _) fun _=>Cg (Kx _ _) fun _=>Cg (Nb _ _ _) fun _=>Cg (Kx _ _) fun _=>Cg (Nb _ _ _) fun _=>F7 _
theorem Aja (s:Au):Fine (Xo s):=Cg (Kx _ _) fun _=>Cg Np fun _=>Cg Abh fun _=>F7 _
theorem Ajy (s:Au):Fine (Yp s):=F7 _
theorem Ak3 (s:Au):Fine (Xa s):=Cg (Nb _ _ _) fun _=>F7 _
theorem Ai7 (s:Au):Fine (V2 s):=Cg (Nb _ _ _) fun _=>F7 _
theorem Ajo {p:Au→Rd α}(hp : ∀ s,Fine (p s)):Fine (Ej p):=Cg Np fun s=>Cg (hp s) fun _=>Cg (Kx _ _) fun _=>F7 _
end
theorem Ahj {w:Au}{A:Airspace}{f:Bool}{p:Rd Airspace}(h:Lc w A=some (f,p)):Fine p:=by
 unfold Lc at h
 refine(Cb h).elim (fun h=>?_) (fun h=>(Cb h).elim (fun h=>?_) (fun h=>(Cb h).elim (fun h=>?_) (fun h=>(Cb h).elim (fun h=>?_) (fun h=>(Cb h).elim (fun h=>?_) (fun h=>(Cb h).elim (fun h=>?_) (fun h=>(Cb h).elim (fun h=>?_) (fun h=>(Cb h).elim (fun h=>?_) (fun h=>(Cb h).elim (fun h=>?_) (fun h=>(Cb h).elim (fun h=>?_) (fun h=>(Cb h).elim (fun h=>?_) (fun h=>nomatch h)))))))))))
 all_goals
  cases h
  exact Cg (Ajo (by first | exact Aka | exact Ajd | exact Akn | exact Aja | exact Ajy | exact Ai7 | exact Aku | exact Ajz | exact Aj1 | exact Ajl | exact Ak3)) fun _=>F7 _
theorem Ajc (A:Airspace)(t:Token):(∃ e,(e=80∨e=2) ∧ ∀ r,Hn A (t::r)=.error (t::r,e)) ∨ ∃ p,Fine p ∧ ∀ r,Hn A (t::r)=p r:=by
 by_cases hk:(t.Kind==1)=true
 ·cases h:Lc t.Text A with
  | none=>exact .inl ⟨80,.inl rfl,fun r=>by simp only [Hn,hk,if_true,h]⟩
  | some x=>
   obtain⟨f,p⟩:=x
   cases f
   ·exact .inr ⟨p,Ahj h,fun r=>by simp only [Hn,hk,if_true,h]; rfl⟩
   ·exact .inl ⟨2,.inr rfl,fun r=>by simp only [Hn,hk,if_true,h]⟩
 ·exact .inl ⟨80,.inl rfl,fun r=>by simp only [Hn,hk]; rfl⟩
theorem Af7 : ∀ (n:Nat) (A:Airspace) (l q:List Token) (e:Int),l.length≤n→Ji n A l=.error (q,e)→q <:+ l∧(e=80∨e=2∧q≠[])
 | n,A,[],q,e,_,h=>by rw [Ji.eq_1] at h; cases h
 | 0,A,t::r,q,e,hn,h=>by simp at hn
 | n+1,A,t::r,q,e,hn,h=>by
  rw [Ji] at h
  rcases Ajc A t with⟨e',he,hd⟩ | ⟨p,hp,hd⟩
  ·rw [hd r] at h
   cases h
   exact⟨List.suffix_refl _,he.imp id fun h=>⟨h,by simp⟩⟩
  ·rw [hd r] at h
   cases h1:p r with
   | error x=>
    rw [h1] at h; cases h
    obtain⟨h2,h3⟩:=hp.err r q e h1
    exact⟨h2.trans (List.suffix_cons _ _),h3⟩
   | ok y=>
    rw [h1] at h
    have h2:=hp.sub r y.1 y.2 h1
    have:=h2.length_le
    simp only [List.length_cons] at hn
    obtain⟨h3,h4⟩:=Af7 n y.1 y.2 q e (by omega) h
    exact⟨(h3.trans h2).trans (List.suffix_cons _ _),h4⟩
end Go.Am
namespace Go.Am
open Go
set_option linter.unusedVariables false
set_option linter.unusedSimpArgs false
end Go.Am
namespace Go.Am
open Go
set_option linter.unusedVariables false
set_option linter.unusedSimpArgs false
def Dm (A C:Airspace):Airspace:={ Volumes:=A.Volumes++C.Volumes,Sectors:=A.Sectors++C.Sectors,Configs:=A.Configs++C.Configs,Segments:=A.Segments++C.Segments,Routes:=A.Routes++C.Routes,Airports:=A.Airports++C.Airports,Classes:=A.Classes++C.Classes,Rules:=A.Rules++C.Rules }
theorem Agx (A C:Airspace)(w:Au):match Lc w C with
  | none=>Lc w (Dm A C)=none
  | some (f,p) => ∃ f' p',Lc w (Dm A C)=some (f',p')∧(f=true→f'=true)∧(∀ l,p' l=match p l with | .ok (B,q)=>.ok (Dm A B,q) | .error e=>.error e) ∧
    (f'=true → ∀ l B q,p l=.ok (B,q)→¬ G1 (Dm A B)):=by
 unfold Lc
 by_cases h_air:(w==[97,105,114,112,111,114,116])=true
 ·rw [if_pos h_air,if_pos h_air]
  refine⟨_,_,rfl,fun h=>?_,fun l=>?_,fun h l B q hB=>?_⟩
  ·have:=of_decide_eq_true h
   exact decide_eq_true (by simp only [Dm,List.length_append]; omega)
  ·simp only [Rd.bind]
   cases Ej Xu l with
   | error e=>rfl
   | ok y=>simp only [Rd.pure,Dm,List.append_assoc]
  ·obtain⟨x,m,_,h2⟩:=Nf hB
   cases h2
   have:=of_decide_eq_true h
   simp only [Dm,List.length_append] at this
   intro hF
   simp only [G1,Dm,List.length_append,List.length_singleton] at hF
   omega
 rw [if_neg h_air,if_neg h_air]
 by_cases h_cla:(w==[99,108,97,115,115])=true
 ·rw [if_pos h_cla,if_pos h_cla]
  refine⟨_,_,rfl,fun h=>?_,fun l=>?_,fun h l B q hB=>?_⟩
  ·have:=of_decide_eq_true h
   exact decide_eq_true (by simp only [Dm,List.length_append]; omega)
  ·simp only [Rd.bind]
   cases Ej Xt l with
   | error e=>rfl
   | ok y=>simp only [Rd.pure,Dm,List.append_assoc]
  ·obtain⟨x,m,_,h2⟩:=Nf hB
   cases h2
   have:=of_decide_eq_true h
   simp only [Dm,List.length_append] at this
   intro hF
   simp only [G1,Dm,List.length_append,List.length_singleton] at hF
   omega
 rw [if_neg h_cla,if_neg h_cla]
 by_cases h_con:(w==[99,111,110,102,105,103])=true
 ·rw [if_pos h_con,if_pos h_con]
  refine⟨_,_,rfl,fun h=>?_,fun l=>?_,fun h l B q hB=>?_⟩
  ·have:=of_decide_eq_true h
   exact decide_eq_true (by simp only [Dm,List.length_append]; omega)
  ·simp only [Rd.bind]
   cases Ej Xz l with
   | error e=>rfl
   | ok y=>simp only [Rd.pure,Dm,List.append_assoc]
  ·obtain⟨x,m,_,h2⟩:=Nf hB
   cases h2
   have:=of_decide_eq_true h
   simp only [Dm,List.length_append] at this
   intro hF
   simp only [G1,Dm,List.length_append,List.length_singleton] at hF
   omega
 rw [if_neg h_con,if_neg h_con]
 by_cases h_cur:(w==[99,117,114,102,101,119])=true
 ·rw [if_pos h_cur,if_pos h_cur]
  refine⟨_,_,rfl,fun h=>?_,fun l=>?_,fun h l B q hB=>?_⟩
  ·have:=of_decide_eq_true h
   exact decide_eq_true (by simp only [Dm,List.length_append]; omega)
  ·simp only [Rd.bind]
   cases Ej Xo l with
   | error e=>rfl
   | ok y=>simp only [Rd.pure,Dm,List.append_assoc]
  ·obtain⟨x,m,_,h2⟩:=Nf hB
   cases h2
   have:=of_decide_eq_true h
   simp only [Dm,List.length_append] at this
   intro hF
   simp only [G1,Dm,List.length_append,List.length_singleton] at hF
   omega
 rw [if_neg h_cur,if_neg h_cur]
 by_cases h_exe:(w==[101,120,101,109,112,116])=true
 ·rw [if_pos h_exe,if_pos h_exe]
  refine⟨_,_,rfl,fun h=>?_,fun l=>?_,fun h l B q hB=>?_⟩
  ·have:=of_decide_eq_true h
   exact decide_eq_true (by simp only [Dm,List.length_append]; omega)
  ·simp only [Rd.bind]
   cases Ej Yp l with
   | error e=>rfl
   | ok y=>simp only [Rd.pure,Dm,List.append_assoc]
  ·obtain⟨x,m,_,h2⟩:=Nf hB
   cases h2
   have:=of_decide_eq_true h
   simp only [Dm,List.length_append] at this
   intro hF
   simp only [G1,Dm,List.length_append,List.length_singleton] at hF
   omega
 rw [if_neg h_exe,if_neg h_exe]
 by_cases h_lon:(w==[108,111,110,103,101,115,116])=true
 ·rw [if_pos h_lon,if_pos h_lon]
  refine⟨_,_,rfl,fun h=>?_,fun l=>?_,fun h l B q hB=>?_⟩
  ·have:=of_decide_eq_true h
   exact decide_eq_true (by simp only [Dm,List.length_append]; omega)
  ·simp only [Rd.bind]
   cases Ej V2 l with
   | error e=>rfl
   | ok y=>simp only [Rd.pure,Dm,List.append_assoc]
  ·obtain⟨x,m,_,h2⟩:=Nf hB
   cases h2
   have:=of_decide_eq_true h
   simp only [Dm,List.length_append] at this
   intro hF
   simp only [G1,Dm,List.length_append,List.length_singleton] at hF
   omega
 rw [if_neg h_lon,if_neg h_lon]
 by_cases h_rou:(w==[114,111,117,116,101])=true
 ·rw [if_pos h_rou,if_pos h_rou]
  refine⟨_,_,rfl,fun h=>?_,fun l=>?_,fun h l B q hB=>?_⟩
  ·have:=of_decide_eq_true h
   exact decide_eq_true (by simp only [Dm,List.length_append]; omega)
  ·simp only [Rd.bind]
   cases Ej Xr l with
   | error e=>rfl
   | ok y=>simp only [Rd.pure,Dm,List.append_assoc]
  ·obtain⟨x,m,_,h2⟩:=Nf hB
   cases h2
   have:=of_decide_eq_true h
   simp only [Dm,List.length_append] at this
   intro hF
   simp only [G1,Dm,List.length_append,List.length_singleton] at hF
   omega
 rw [if_neg h_rou,if_neg h_rou]
 by_cases h_sec:(w==[115,101,99,116,111,114])=true
 ·rw [if_pos h_sec,if_pos h_sec]
  refine⟨_,_,rfl,fun h=>?_,fun l=>?_,fun h l B q hB=>?_⟩
  ·have:=of_decide_eq_true h
   exact decide_eq_true (by simp only [Dm,List.length_append]; omega)
  ·simp only [Rd.bind]
   cases Ej W2 l with
   | error e=>rfl
   | ok y=>simp only [Rd.pure,Dm,List.append_assoc]
  ·obtain⟨x,m,_,h2⟩:=Nf hB
   cases h2
   have:=of_decide_eq_true h
   simp only [Dm,List.length_append] at this
   intro hF
   simp only [G1,Dm,List.length_append,List.length_singleton] at hF
   omega
 rw [if_neg h_sec,if_neg h_sec]
 by_cases h_seg:(w==[115,101,103,109,101,110,116])=true
 ·rw [if_pos h_seg,if_pos h_seg]
  refine⟨_,_,rfl,fun h=>?_,fun l=>?_,fun h l B q hB=>?_⟩
  ·have:=of_decide_eq_true h
   exact decide_eq_true (by simp only [Dm,List.length_append]; omega)
  ·simp only [Rd.bind]
   cases Ej Xc l with
   | error e=>rfl
   | ok y=>simp only [Rd.pure,Dm,List.append_assoc]
  ·obtain⟨x,m,_,h2⟩:=Nf hB
   cases h2
   have:=of_decide_eq_true h
   simp only [Dm,List.length_append] at this
   intro hF
   simp only [G1,Dm,List.length_append,List.length_singleton] at hF
   omega
 rw [if_neg h_seg,if_neg h_seg]
 by_cases h_vol:(w==[118,111,108,117,109,101])=true
 ·rw [if_pos h_vol,if_pos h_vol]
  refine⟨_,_,rfl,fun h=>?_,fun l=>?_,fun h l B q hB=>?_⟩
  ·have:=of_decide_eq_true h
   exact decide_eq_true (by simp only [Dm,List.length_append]; omega)
  ·simp only [Rd.bind]
   cases Ej Xj l with
   | error e=>rfl
   | ok y=>simp only [Rd.pure,Dm,List.append_assoc]
  ·obtain⟨x,m,_,h2⟩:=Nf hB
   cases h2
   have:=of_decide_eq_true h
   simp only [Dm,List.length_append] at this
   intro hF
   simp only [G1,Dm,List.length_append,List.length_singleton] at hF
   omega
 rw [if_neg h_vol,if_neg h_vol]
 by_cases h_wei:(w==[119,101,105,103,104,116])=true
 ·rw [if_pos h_wei,if_pos h_wei]
  refine⟨_,_,rfl,fun h=>?_,fun l=>?_,fun h l B q hB=>?_⟩
  ·have:=of_decide_eq_true h
   exact decide_eq_true (by simp only [Dm,List.length_append]; omega)
  ·simp only [Rd.bind]
   cases Ej Xa l with
   | error e=>rfl
   | ok y=>simp only [Rd.pure,Dm,List.append_assoc]
  ·obtain⟨x,m,_,h2⟩:=Nf hB
   cases h2
   have:=of_decide_eq_true h
   simp only [Dm,List.length_append] at this
   intro hF
   simp only [G1,Dm,List.length_append,List.length_singleton] at hF
   omega
 rw [if_neg h_wei,if_neg h_wei]
end Go.Am
namespace Go.Am
open Go
set_option linter.unusedVariables false
set_option linter.unusedSimpArgs false
def leA (C D:Airspace):Prop:=C.Volumes.length≤D.Volumes.length∧C.Sectors.length≤D.Sectors.length∧C.Configs.length≤D.Configs.length∧C.Segments.length≤D.Segments.length∧C.Routes.length≤D.Routes.length∧C.Airports.length≤D.Airports.length∧C.Classes.length≤D.Classes.length∧C.Rules.length≤D.Rules.length
theorem Ajp (C:Airspace):leA C C:=⟨Nat.le_refl _,Nat.le_refl _,Nat.le_refl _,Nat.le_refl _,Nat.le_refl _,Nat.le_refl _,Nat.le_refl _,Nat.le_refl _⟩
theorem Ain {B C D:Airspace}(h:leA B C)(k:leA C D):leA B D:=
 ⟨Nat.le_trans h.1 k.1,Nat.le_trans h.2.1 k.2.1,Nat.le_trans h.2.2.1 k.2.2.1,Nat.le_trans h.2.2.2.1 k.2.2.2.1,Nat.le_trans h.2.2.2.2.1 k.2.2.2.2.1,Nat.le_trans h.2.2.2.2.2.1 k.2.2.2.2.2.1,Nat.le_trans h.2.2.2.2.2.2.1 k.2.2.2.2.2.2.1,Nat.le_trans h.2.2.2.2.2.2.2 k.2.2.2.2.2.2.2⟩
theorem Amw {A C D:Airspace}(h:leA C D)(k:G1 (Dm A D)):G1 (Dm A C):=by
 obtain⟨h1,h2,h3,h4,h5,h6,h7,h8⟩:=h
 simp only [G1,Dm,List.length_append] at k ⊢
 omega
theorem Aih {w:Au}{C:Airspace}{f:Bool}{p:Rd Airspace}(h:Lc w C=some (f,p)){l:List Token}{B:Airspace}{q:List Token}(hB:p l=.ok (B,q)):leA C B:=by
 unfold Lc at h
 refine(Cb h).elim (fun h=>?_) (fun h=>(Cb h).elim (fun h=>?_) (fun h=>(Cb h).elim (fun h=>?_) (fun h=>(Cb h).elim (fun h=>?_) (fun h=>(Cb h).elim (fun h=>?_) (fun h=>(Cb h).elim (fun h=>?_) (fun h=>(Cb h).elim (fun h=>?_) (fun h=>(Cb h).elim (fun h=>?_) (fun h=>(Cb h).elim (fun h=>?_) (fun h=>(Cb h).elim (fun h=>?_) (fun h=>(Cb h).elim (fun h=>?_) (fun h=>nomatch h)))))))))))
 all_goals
  cases h
  obtain⟨x,m,_,h2⟩:=Nf hB
  cases h2
  simp only [leA,List.length_append,List.length_singleton]
  omega
theorem Yt {C:Airspace}{t:Token}{r:List Token}{B:Airspace}{q:List Token}(h:Hn C (t::r)=.ok (B,q)):(t.Kind==1)=true ∧ ∃ p,Lc t.Text C=some (false,p)∧p r=.ok (B,q):=by
 simp only [Hn] at h
 split at h
 ·rename_i hk
  cases hi:Lc t.Text C with
  | none=>rw [hi] at h; cases h
  | some x=>
   obtain⟨f,p⟩:=x
   rw [hi] at h
   simp only at h
   cases f
   ·exact⟨hk,p,rfl,h⟩
   ·cases h
 ·cases h
theorem Adl : ∀ (n:Nat) (C D:Airspace) (l:List Token),Ji n C l=.ok D→leA C D
 | n,C,D,[],h=>by rw [Ji.eq_1] at h; cases h; exact Ajp _
 | 0,C,D,t::r,h=>by cases h
 | n+1,C,D,t::r,h=>by
  rw [Ji] at h
  cases hd:Hn C (t::r) with
  | error e=>rw [hd] at h; cases h
  | ok y=>
   obtain⟨B,k⟩:=y
   rw [hd] at h
   obtain⟨_,p,h1,h2⟩:=Yt hd
   exact Ain (Aih h1 h2) (Adl n B D k h)
theorem Af6 (A:Airspace) : ∀ (n m:Nat) (C D:Airspace) (l:List Token),l.length≤n→l.length≤m→Ji n C l=.ok D →
  (G1 (Dm A D)→Ji m (Dm A C) l=.ok (Dm A D))∧(¬ G1 (Dm A D)→G1 (Dm A C) → ∃ q,q≠[]∧q <:+ l∧Ji m (Dm A C) l=.error (q,2))
 | n,m,C,D,[],_,_,h=>by
  rw [Ji.eq_1] at h
  cases h
  exact⟨fun _=>by rw [Ji.eq_1],fun h1 h2=>absurd h2 h1⟩
 | 0,m,C,D,t::r,hn,_,h=>by simp at hn
 | n+1,0,C,D,t::r,_,hm,h=>by simp at hm
 | n+1,m+1,C,D,t::r,hn,hm,h=>by
  rw [Ji] at h
  rw [Ji]
  simp only [List.length_cons] at hn hm
  cases hd:Hn C (t::r) with
  | error e=>rw [hd] at h; cases h
  | ok y=>
   obtain⟨B,k⟩:=y
   rw [hd] at h
   simp only at h
   obtain⟨hk,p,h1,h2⟩:=Yt hd
   have hs:=Agx A C t.Text
   rw [h1] at hs
   obtain⟨f',p',h3,_,h5,h6⟩:=hs
   have hg:=Adl n B D k h
   cases f'
   ·have h7:p' r=.ok (Dm A B,k):=by rw [h5,h2]
    have h8:Hn (Dm A C) (t::r)=.ok (Dm A B,k):=by
     simp only [Hn,hk,if_true,h3]
     exact h7
    rw [h8]
    obtain⟨s1,s2⟩:=Abr h3
    have hkr:=s1 r _ _ h7
    have:=hkr.length_le
    obtain⟨g1,g2⟩:=Af6 A n m B D k (by omega) (by omega) h
    refine⟨g1,fun h9 h10=>?_⟩
    obtain⟨q,q1,q2,q3⟩:=g2 h9 (s2 h10 rfl r _ _ h7)
    exact⟨q,q1,(q2.trans hkr).trans (List.suffix_cons _ _),q3⟩
   ·have h8:Hn (Dm A C) (t::r)=.error (t::r,2):=by
     simp only [Hn,hk,if_true,h3]
    rw [h8]
    refine⟨fun h9=>absurd (Amw hg h9) (h6 rfl r B k h2),fun _ _=>⟨t::r,by simp,List.suffix_refl _,rfl⟩⟩
end Go.Am
namespace Go.Am
open Go
set_option linter.unusedVariables false
set_option linter.unusedSimpArgs false
structure RExt {α:Type}(p:Rd α):Prop where
 sub:Jt p
 ext : ∀ c t m a,p (c++t::m)=.ok (a,t::m) → ∀ m',p (c++t::m')=.ok (a,t::m')
section
variable {α β:Type}
theorem I0 (a:α):RExt (Rd.pure a) where
 sub:=Ez a
 ext:=fun c t m b h m'=>by
  have h1:c++t::m=t::m:=by injection h with h; injection h
  have h2:a=b:=by injection h with h; injection h
  rw [Xk h1,h2]; rfl
theorem C1 {p:Rd α}{f:α→Rd β}(hp:RExt p)(hf : ∀ a,RExt (f a)):RExt (p.bind f) where
 sub:=B9 hp.sub fun a=>(hf a).sub
 ext:=fun c t m b h m'=>by
  obtain⟨a,k,h1,h2⟩:=Nf h
  obtain⟨d,hd⟩:=(hf a).sub k b _ h2
  obtain⟨c',hc⟩:=hp.sub _ a k h1
  have hk:c=c'++d:=by
   rw [← hd,← List.append_assoc] at hc
   exact(List.append_cancel_right hc).symm
  subst hk
  rw [← hd] at h1 h2
  have h3:=(hf a).ext d t m b h2 m'
  rw [List.append_assoc] at h1 ⊢
  unfold Rd.bind
  have h4:p (c'++(d++t::m'))=.ok (a,d++t::m'):=by
   cases d with
   | nil=>exact hp.ext c' t m a h1 m'
   | cons u d=>exact hp.ext c' u (d++t::m) a h1 (d++t::m')
  rw [h4]
  exact h3
theorem Abn {q:Token→Bool}{f:Token→α}:RExt ((Ng q).bind fun t=>.pure (f t)) where
 sub:=B9 (Wh _) fun _=>Ez _
 ext:=fun c t m a h m'=>by
  cases c with
  | nil=>
   rw [List.nil_append,O7] at h
   split at h
   ·injection h with h; injection h with _ h
    exact absurd (congrArg List.length h) (by simp)
   ·cases h
  | cons u c=>
   rw [List.cons_append,O7] at h ⊢
   split at h
   ·rename_i hq
    injection h with h; injection h with h1 h2
    rw [if_pos hq,Xk h2,h1]; rfl
   ·cases h
theorem Af5 {k:Int}{w:Au}{p1 p2:Rd α}(h1:RExt p1)(h2:RExt p2):RExt ((M7 k w).bind fun b=>if b=true then(Kb k w).bind fun _=>p1 else p2):=by
 have eN:((M7 k w).bind fun b=>if b=true then(Kb k w).bind fun _=>p1 else p2) []=p2 []:=rfl
 have eY : ∀ t l,Iz k w t=true→((M7 k w).bind fun b=>if b=true then(Kb k w).bind fun _=>p1 else p2) (t::l)=p1 l:=fun t l ht=>by
  simp only [Rd.bind,M7,ht,if_true]; rw [Xi,if_pos ht]
 have eF : ∀ t l,¬ Iz k w t=true→((M7 k w).bind fun b=>if b=true then(Kb k w).bind fun _=>p1 else p2) (t::l)=p2 (t::l):=fun t l ht=>by
  simp only [Rd.bind,M7,ht,if_false,Bool.false_eq_true]
 refine⟨fun l a q h=>?_,fun c t m a h m'=>?_⟩
 ·cases l with
  | nil=>rw [eN] at h; exact h2.sub _ _ _ h
  | cons t l=>
   by_cases ht:Iz k w t=true
   ·rw [eY t l ht] at h; exact(h1.sub _ _ _ h).trans (List.suffix_cons _ _)
   ·rw [eF t l ht] at h; exact h2.sub _ _ _ h
 ·cases c with
  | nil=>
   rw [List.nil_append] at h ⊢
   by_cases ht:Iz k w t=true
   ·rw [eY t m ht] at h
    have:=(h1.sub _ _ _ h).length_le
    simp at this
    omega
   ·rw [eF t m ht] at h
    rw [eF t m' ht]
    exact h2.ext [] t m a h m'
  | cons u c=>
   rw [List.cons_append] at h ⊢
   by_cases ht:Iz k w u=true
   ·rw [eY _ _ ht] at h ⊢
    exact h1.ext c t m a h m'
   ·rw [eF _ _ ht] at h ⊢
    exact h2.ext (u::c) t m a h m'
theorem Akz {k:Int}{w:Au}{p2:Rd α}(h2:RExt p2):RExt ((M7 k w).bind fun b=>if b=true then .fail 2 else p2):=by
 have eN:((M7 k w).bind fun b=>if b=true then(.fail 2:Rd α) else p2) []=p2 []:=rfl
 have eY : ∀ t l,Iz k w t=true→((M7 k w).bind fun b=>if b=true then(.fail 2:Rd α) else p2) (t::l)=.error (t::l,2):=fun t l ht=>by
  simp only [Rd.bind,M7,ht,if_true]; rfl
 have eF : ∀ t l,¬ Iz k w t=true→((M7 k w).bind fun b=>if b=true then(.fail 2:Rd α) else p2) (t::l)=p2 (t::l):=fun t l ht=>by
  simp only [Rd.bind,M7,ht,if_false,Bool.false_eq_true]
 refine⟨fun l a q h=>?_,fun c t m a h m'=>?_⟩
 ·cases l with
  | nil=>rw [eN] at h; exact h2.sub _ _ _ h
  | cons t l=>
   by_cases ht:Iz k w t=true
   ·rw [eY t l ht] at h; cases h
   ·rw [eF t l ht] at h; exact h2.sub _ _ _ h
 ·cases c with
  | nil=>
   rw [List.nil_append] at h ⊢
   by_cases ht:Iz k w t=true
   ·rw [eY t m ht] at h; cases h
   ·rw [eF t m ht] at h
    rw [eF t m' ht]
    exact h2.ext [] t m a h m'
  | cons u c=>
   rw [List.cons_append] at h ⊢
   by_cases ht:Iz k w u=true
   ·rw [eY _ _ ht] at h; cases h
   ·rw [eF _ _ ht] at h ⊢
    exact h2.ext (u::c) t m a h m'
theorem O6:RExt Le:=Abn
theorem M8 (k:Int)(w:Au):RExt (Kb k w):=Abn
theorem Oh (a b c:Int):RExt (Ok a b c):=Abn
theorem Acp:RExt Pe:=C1 (Oh _ _ _) fun _=>C1 (M8 _ _) fun _=>C1 (Oh _ _ _) fun _=>I0 _
theorem Qa {p:Rd α}(hp:RExt p) : ∀ (n:Nat) (acc:List α),RExt (Fi p n acc)
 | 0,acc=>by
  rw [Fi]
  exact C1 hp fun a=>Akz (I0 _)
 | n+1,acc=>by
  rw [Fi]
  exact C1 hp fun a=>Af5 (Qa hp n _) (I0 _)
theorem Ab8 (w:Au):RExt (Tc w):=Af5 (Qa Acp _ _) (I0 _)
theorem Akl:RExt S8:=C1 (M8 _ _) fun _=>C1 O6 fun _=>C1 (Oh _ _ _) fun _=>I0 _
theorem Alw (s:Au):RExt (Xj s):=C1 (Ab8 _) fun _=>I0 _
theorem Als (s:Au):RExt (W2 s):=C1 (M8 _ _) fun _=>C1 (Qa O6 _ _) fun _=>C1 (M8 _ _) fun _=>C1 (Oh _ _ _) fun _=>C1 (M8 _ _) fun _=>C1 (Oh _ _ _) fun _=>I0 _
theorem Ane (s:Au):RExt (Xz s):=C1 (M8 _ _) fun _=>C1 (Qa O6 _ _) fun _=>I0 _
theorem Ang (s:Au):RExt (Xc s):=C1 (M8 _ _) fun _=>C1 O6 fun _=>C1 (M8 _ _) fun _=>C1 (Oh _ _ _) fun _=>C1 (Ab8 _) fun _=>I0 _
theorem Ali (s:Au):RExt (Xr s):=C1 (M8 _ _) fun _=>C1 O6 fun _=>C1 (M8 _ _) fun _=>C1 O6 fun _=>C1 (M8 _ _) fun _=>C1 (Qa O6 _ _) fun _=>I0 _
theorem Alj (s:Au):RExt (Xu s):=C1 (Qa Akl _ _) fun _=>I0 _
theorem Ann (s:Au):RExt (Xt s):=C1 (M8 _ _) fun _=>C1 (Oh _ _ _) fun _=>C1 (M8 _ _) fun _=>C1 (Oh _ _ _) fun _=>C1 (M8 _ _) fun _=>C1 (Oh _ _ _) fun _=>I0 _
theorem Alm (s:Au):RExt (Xo s):=C1 (M8 _ _) fun _=>C1 O6 fun _=>C1 Acp fun _=>I0 _
theorem Anr (s:Au):RExt (Yp s):=I0 _
theorem Alh (s:Au):RExt (Xa s):=C1 (Oh _ _ _) fun _=>I0 _
theorem Alz (s:Au):RExt (V2 s):=C1 (Oh _ _ _) fun _=>I0 _
end
end Go.Am
namespace Go.Am
open Go
set_option linter.unusedVariables false
set_option linter.unusedSimpArgs false
def Ak9 {α:Type}(p:Rd α):Prop := ∀ c d B,p (c++d)=.ok (B,d) → ∀ d',p (c++d')=.ok (B,d')
theorem Akq {α:Type}{p:Au→Rd α}(hp : ∀ s,RExt (p s))(g:α→Airspace):Ak9 ((Ej p).bind fun x=>.pure (g x)):=by
 have e:(Ej p).bind (fun x=>.pure (g x))=(Le.bind p).bind fun x=>(Kb 3 [59]).bind fun _=>.pure (g x):=by
  unfold Ej
  simp only [Ajv,Anf]
 have hQ:RExt (Le.bind p):=C1 O6 hp
 rw [e]
 intro c d B h d'
 obtain⟨x,k,h1,h2⟩:=Nf h
 cases k with
 | nil=>cases h2
 | cons u k=>
  simp only [Rd.bind,Xi] at h2
  split at h2
  ·cases h2
  ·rename_i hh
   split at hh
   ·rename_i hu
    cases hh
    cases h2
    obtain⟨c',hc⟩:=hQ.sub _ x _ h1
    have hk:c=c'++[u]:=by
     have:(c'++[u])++d=c++d:=by rw [← hc]; simp
     exact(List.append_cancel_right this).symm
    subst hk
    rw [List.append_assoc] at h1 ⊢
    have h3:=hQ.ext c' u d x h1 d'
    have h3:(Le.bind p) (c'++([u]++d'))=.ok (x,u::d'):=h3
    show((Le.bind p).bind fun x=>(Kb 3 [59]).bind fun _=>Rd.pure (g x)) (c'++([u]++d'))=_
    rw [show((Le.bind p).bind fun x=>(Kb 3 [59]).bind fun _=>Rd.pure (g x)) (c'++([u]++d'))=(match (Le.bind p) (c'++([u]++d')) with | .error x=>.error x | .ok (a,r)=>((Kb 3 [59]).bind fun _=>Rd.pure (g a)) r) from rfl,h3]
    simp only [Rd.bind,Xi,hu,if_true]
    rfl
   ·cases hh
theorem Ahy {w:Au}{A:Airspace}{f:Bool}{p:Rd Airspace}(h:Lc w A=some (f,p)):Ak9 p:=by
 unfold Lc at h
 refine(Cb h).elim (fun h=>?_) (fun h=>(Cb h).elim (fun h=>?_) (fun h=>(Cb h).elim (fun h=>?_) (fun h=>(Cb h).elim (fun h=>?_) (fun h=>(Cb h).elim (fun h=>?_) (fun h=>(Cb h).elim (fun h=>?_) (fun h=>(Cb h).elim (fun h=>?_) (fun h=>(Cb h).elim (fun h=>?_) (fun h=>(Cb h).elim (fun h=>?_) (fun h=>(Cb h).elim (fun h=>?_) (fun h=>(Cb h).elim (fun h=>?_) (fun h=>nomatch h)))))))))))
 all_goals
  cases h
  exact Akq (by first | exact Alj | exact Ann | exact Ane | exact Alm | exact Anr | exact Alz | exact Ali | exact Als | exact Ang | exact Alw | exact Alh) _
theorem Afz : ∀ (n m:Nat) (C A:Airspace) (l k:List Token),(l++k).length≤n→Ji m C l=.ok A→l.length≤m → ∃ j,k.length≤j∧Ji n C (l++k)=Ji j A k
 | n,m,C,A,[],k,hn,h,_=>by
  rw [Ji.eq_1] at h
  cases h
  exact⟨n,by simpa using hn,rfl⟩
 | 0,m,C,A,t::r,k,hn,h,_=>by simp at hn
 | n+1,0,C,A,t::r,k,_,h,hm=>by simp at hm
 | n+1,m+1,C,A,t::r,k,hn,h,hm=>by
  rw [Ji] at h
  rw [List.cons_append,Ji]
  simp only [List.length_cons,List.cons_append] at hn hm
  cases hd:Hn C (t::r) with
  | error e=>rw [hd] at h; cases h
  | ok y=>
   obtain⟨B,d⟩:=y
   rw [hd] at h
   simp only at h
   obtain⟨hk,p,h1,h2⟩:=Yt hd
   obtain⟨c,hc⟩:=(Abr h1).1 r B d h2
   subst hc
   have h3:=Ahy h1 c d B h2 (d++k)
   have h4:Hn C (t::((c++d)++k))=.ok (B,d++k):=by
    simp only [Hn,hk,if_true,h1]
    rw [List.append_assoc]
    exact h3
   rw [h4]
   simp only [List.length_append] at hn hm
   exact Afz n m B A d k (by rw [List.length_append]; omega) h (by omega)
end Go.Am
namespace Go.Am
open Go
set_option linter.unusedVariables false
set_option linter.unusedSimpArgs false
theorem X0 : ∀ (n:Nat) (A:Airspace) (l:List Token) (B:Airspace),G1 A→Ji n A l=.ok B→G1 B
 | n,A,[],B,hA,h=>by rw [Ji.eq_1] at h; cases h; exact hA
 | 0,A,t::r,B,hA,h=>by cases h
 | n+1,A,t::r,B,hA,h=>by
  rw [Ji] at h
  cases hd:Hn A (t::r) with
  | error e=>rw [hd] at h; cases h
  | ok y=>
   obtain⟨C,k⟩:=y
   rw [hd] at h
   exact X0 n C k B (Aef hA hd).1 h
instance (A:Airspace):Decidable (G1 A):=by unfold G1; exact inferInstance
theorem Aa6 {s:Au}(h:(Kq s).2.2=0)(hs:s.length≤65536) : ∃ l A,Ka s 0=.ok l∧Ol l=.ok A∧Kq s=(A,0,0):=by
 by_cases he:(Gr s).2.2=0
 ·cases hl:Ka s 0 with
  | wrong e=>rw [Yu hs,hl,Ahq] at he; exact absurd he (by simp)
  | ok l=>
   have e1:=Z6 hs hl
   cases hp:Ol l with
   | ok A=>exact⟨l,A,rfl,hp,by rw [e1,hp]; rfl⟩
   | error x=>
    obtain⟨q,e⟩:=x
    rw [e1,hp] at h
    obtain⟨_,h2⟩:=Af7 l.length Ww l q e (Nat.le_refl _) hp
    have h:e=0:=h
    rcases h2 with h2 | ⟨h2,_⟩ <;> omega
 ·rw [Adg he] at h; exact absurd h he
theorem Al3 {A B:Airspace}(hA:G1 A)(hB:G1 B):Rj A B=.ok (decide (G1 (Dm A B))):=by
 obtain⟨a1,a2,a3,a4,a5,a6,a7,a8⟩:=hA
 obtain⟨b1,b2,b3,b4,b5,b6,b7,b8⟩:=hB
 unfold Rj
 rw [Oi (by omega) (by omega),Oi (by omega) (by omega),Oi (by omega) (by omega),Oi (by omega) (by omega),Oi (by omega) (by omega),Oi (by omega) (by omega),Oi (by omega) (by omega),Oi (by omega) (by omega)]
 congr 1
 rw [Bool.eq_iff_iff]
 simp only [Bool.and_eq_true,decide_eq_true_eq,G1,Dm,List.length_append]
 omega
theorem Afc {a b:Au}(hs:a.length+b.length≤4000){A B:Airspace}{la lb:List Token}(ha:Ka a 0=.ok la)(pa:Ol la=.ok A)(hb:Ka b 0=.ok lb)(pb:Ol lb=.ok B) :
  (G1 (Dm A B)→Kq ((a++[10])++b)=(Dm A B,0,0))∧(¬ G1 (Dm A B)→(Kq ((a++[10])++b)).2.2=2∧(Kq ((a++[10])++b)).2.1 > (a.length:Int)):=by
 have hA:G1 A:=X0 _ _ _ _ Abo pa
 have e0:(a++[10])++b=a++10::b:=by simp
 have h1:=Af3 b a.length a 0 (Nat.le_refl _)
 rw [ha,Nat.zero_add] at h1
 have h2:=Af9 (a.length+1) b.length b 0 (Nat.le_refl _)
 rw [hb,Nat.zero_add] at h2
 rw [h2] at h1
 have h3:Ka ((a++[10])++b) 0=.ok (la++lb.map fun t=>{ t with At:=t.At+((a.length+1:Nat):Int) }):=by rw [e0,h1]; rfl
 generalize hlb:(lb.map fun t=>{ t with At:=t.At+((a.length+1:Nat):Int) })=lb' at h3
 have hn:lb'.map Rh=lb.map Rh:=by rw [← hlb,List.map_map]; rfl
 have hat : ∀ t ∈ lb',(a.length:Int)<t.At:=fun t ht=>by
  rw [← hlb,List.mem_map] at ht
  obtain⟨u,hu,rfl⟩:=ht
  obtain⟨m,h4,_,_⟩:=Afr _ b 0 lb (Nat.le_refl _) hb u hu
  show(a.length:Int)<u.At+((a.length+1:Nat):Int)
  rw [h4]; omega
 have pb':Ol lb'=.ok B:=by
  have h4:=Acr lb'
  rw [hn,Acr,pb] at h4
  cases h5:Ol lb' with
  | ok C=>rw [h5] at h4; cases h4; rfl
  | error x=>rw [h5] at h4; cases h4
 have hlen:((a++[10])++b).length≤65536:=by simp; omega
 rw [Z6 hlen h3]
 obtain⟨j,hj,h6⟩:=Afz (la++lb').length la.length Ww A la lb' (Nat.le_refl _) pa (Nat.le_refl _)
 have h7:=Af6 A lb'.length j Ww B lb' (Nat.le_refl _) hj pb'
 have h8:Dm A Ww=A:=by simp [Dm,Ww]
 rw [h8] at h7
 have h9:Ol (la++lb')=Ji j A lb':=h6
 rw [h9]
 refine⟨fun hF=>by rw [h7.1 hF]; rfl,fun hF=>?_⟩
 obtain⟨q,q1,q2,q3⟩:=h7.2 hF hA
 rw [q3]
 refine⟨rfl,?_⟩
 cases q with
 | nil=>exact absurd rfl q1
 | cons t r=>exact hat t (q2.subset (List.mem_cons_self ..))
theorem law_SyntaxJoins:Nl:=by
 intro a b _ _ hbulk
 have hb1:a.length+b.length≤1048576:=by
  have h1:a.length≤V9.bulk a:=Nat.le_succ _
  have h2:b.length≤V9.bulk b:=Nat.le_succ _
  omega
 unfold N9
 rw [Aj2,R.ok_bind,if_pos rfl,Oi (by omega) (by omega)]
 by_cases hlen:((a.length:Int)+(b.length:Int)) > 4000
 ·rw [if_pos hlen]
 rw [if_neg hlen]
 have e1:a.length+([10]:List Nat).length≤9223372036854775807:=by rw [List.length_singleton]; omega
 have e2:(a++[10]).length+b.length≤9223372036854775807:=by rw [List.length_append,List.length_singleton]; omega
 rw [Xy,R.ok_bind,Xy,R.ok_bind,if_pos e1,if_pos e2,Xy,R.ok_bind]
 by_cases h1:(Kq a).2.2=0
 ·by_cases h2:(Kq b).2.2=0
  ·obtain⟨la,A,k1,k2,k3⟩:=Aa6 h1 (by omega)
   obtain⟨lb,B,m1,m2,m3⟩:=Aa6 h2 (by omega)
   have hA:G1 A:=X0 _ _ _ _ Abo k2
   have hB:G1 B:=X0 _ _ _ _ Abo m2
   obtain⟨j1,j2⟩:=Afc (by omega) k1 k2 m1 m2
   rw [k3,m3]
   simp only [bne_self_eq_false,Bool.or_self,Bool.false_eq_true,if_false,Al3 hA hB,R.ok_bind]
   by_cases hF:G1 (Dm A B)
   ·rw [if_pos (decide_eq_true hF),j1 hF]
    have hF':=hF
    obtain⟨f1,f2,f3,f4,f5,f6,f7,f8⟩:=hF'
    simp only [Dm,List.length_append] at f1 f2 f3 f4 f5 f6 f7 f8
    have hLIM:1000000≤D2:=by decide
    rw [if_pos (by omega),if_pos (by omega),if_pos (by omega),if_pos (by omega),if_pos (by omega),if_pos (by omega),if_pos (by omega),if_pos (by omega),if_pos (by omega),if_pos (by omega),if_pos (by omega),if_pos (by omega),if_pos (by omega),if_pos (by omega),if_pos (by omega),if_pos (by omega)]
    have e:({ Volumes:=(A.Volumes++B.Volumes),Sectors:=(A.Sectors++B.Sectors),Configs:=(A.Configs++B.Configs),Segments:=(A.Segments++B.Segments),Routes:=(A.Routes++B.Routes),Airports:=(A.Airports++B.Airports),Classes:=(A.Classes++B.Classes),Rules:=(A.Rules++B.Rules) }:Airspace)=Dm A B:=rfl
    rw [e]
    simp only [beq_self_eq_true,Bool.and_self,if_true,Afh,R.ok_bind]
   ·rw [if_neg (by simpa using hF)]
    obtain⟨e1,e2⟩:=j2 hF
    rw [e1,decide_eq_true e2]; rfl
  ·rw [if_pos (by simp [h2])]
 ·rw [if_pos (by simp [h1])]
end Go.Am
namespace Go.Proofs
open Go.Shelf
def Tryz.lays156_ren:Go.Shelf.Ren:=⟨fun | 156=>61 | 165=>110 | 166=>111 | 169=>112 | 240=>121 | 241=>122 | 276=>134 | 277=>135 | n=>n,fun | 31=>55 | 9=>9 | 3=>3 | 4=>4 | 0=>0 | 20=>20 | 72=>176 | 76=>170 | 70=>173 | 37=>174 | 75=>169 | 127=>184 | 164=>198 | 5=>5 | 80=>178 | n=>n,fun | n=>n⟩
theorem Tryz.lays156:Go.Proofs.Lays.n156 Tryz.prog Tryz.lays156_ren:={
 mixed:=by kernel_rfl
 f156:=Tryz.func61.trans (congrArg some (by kernel_rfl))
 f165:=Tryz.func110.trans (congrArg some (by kernel_rfl))
 f166:=Tryz.func111.trans (congrArg some (by kernel_rfl))
 f169:=Tryz.func112.trans (congrArg some (by kernel_rfl))
 f240:=Tryz.func121.trans (congrArg some (by kernel_rfl))
 f241:=Tryz.func122.trans (congrArg some (by kernel_rfl))
 f276:=Tryz.func134.trans (congrArg some (by kernel_rfl))
 f277:=Tryz.func135.trans (congrArg some (by kernel_rfl))
 t0:=Tryz.underlying0
 a0:=Tryz.isAgg0
 z0:=Tryz.sizeOf0
 v0:=Tryz.zeroValue0
 t3:=Tryz.underlying3
 a3:=Tryz.isAgg3
 z3:=Tryz.sizeOf3
 v3:=Tryz.zeroValue3
 t4:=Tryz.underlying4
 a4:=Tryz.isAgg4
 z4:=Tryz.sizeOf4
 v4:=Tryz.zeroValue4
 t9:=Tryz.underlying9
 a9:=Tryz.isAgg9
 z9:=Tryz.sizeOf9
 v9:=Tryz.zeroValue9
 t20:=Tryz.underlying20
 a20:=Tryz.isAgg20
 z20:=Tryz.sizeOf20
 v20:=Tryz.zeroValue20
 t31:=Tryz.underlying55
 a31:=Tryz.isAgg55
 z31:=Tryz.sizeOf55
 v31:=Tryz.zeroValue55
 t37:=Tryz.underlying174
 a37:=Tryz.isAgg174
 z37:=Tryz.sizeOf174
 v37:=Tryz.zeroValue174
 t70:=Tryz.underlying173
 a70:=Tryz.isAgg173
 z70:=Tryz.sizeOf173
 v70:=Tryz.zeroValue173
 t72:=Tryz.underlying176
 a72:=Tryz.isAgg176
 z72:=Tryz.sizeOf176
 v72:=Tryz.zeroValue176
 t75:=Tryz.underlying169
 a75:=Tryz.isAgg169
 z75:=Tryz.sizeOf169
 v75:=Tryz.zeroValue169
 t76:=Tryz.underlying170
 a76:=Tryz.isAgg170
 z76:=Tryz.sizeOf170
 v76:=Tryz.zeroValue170
 t127:=Tryz.underlying184
 a127:=Tryz.isAgg184
 z127:=Tryz.sizeOf184
 v127:=Tryz.zeroValue184
 t164:=Tryz.underlying198
 a164:=Tryz.isAgg198
 z164:=Tryz.sizeOf198
 v164:=Tryz.zeroValue198 }
theorem Tryz.Builder_Extra_156:Builder.Extra Tryz.prog Tryz.lays156_ren:={
 sizeBuilder:=by kernel_rfl
 liesBuilder:=by kernel_rfl
 t5:=Tryz.underlying5
 a5:=Tryz.isAgg5
 z5:=Tryz.sizeOf5
 v5:=Tryz.zeroValue5
 infoByte:=by kernel_rfl
 cellsByte:=by kernel_rfl
 sizeByte:=by kernel_rfl
 neB5:=by decide }
open Go.RowKit in
theorem Tryz.strings_Join_none (a : Option Addr) (c : Nat) (sep : ByteArray) (w : World) :
  Calls Tryz.prog 61 #[.slice a 0 c, .string sep] w fun e w' => e = .returned (.string ⟨#[]⟩) ∧ w' = w := Any.strings_Join_none Tryz.lays156 Tryz.Builder_Extra_156 a c sep w
open Go.RowKit in
theorem Tryz.strings_Join (bk o c : Nat) (xs : List ByteArray) (sep : ByteArray) (w : World) (hcells : ∀ (j : Nat) x, xs[j]? = some x → w.cell? ⟨bk, o + j, none⟩ = some (.string x)) (hbk : bk < w.heap.size) (hN : xs.length ≤ 140737488355328) (hcap : xs.length ≤ c) (hlen : (Lib.join (xs.map (·.data.toList)) sep.data.toList).length ≤ 140737488355328) :
  Calls Tryz.prog 61 #[.slice (some ⟨bk, o, none⟩) xs.length c, .string sep] w fun e w' => e = .returned (.string ⟨(Lib.join (xs.map (·.data.toList)) sep.data.toList).toArray⟩) ∧ Below w.heap.size w w' := Any.strings_Join Tryz.lays156 Tryz.Builder_Extra_156 bk o c xs sep w hcells hbk hN hcap hlen
def Tryz.lays137_ren:Go.Shelf.Ren:=⟨fun | 137=>108 | 217=>119 | 266=>129 | n=>n,fun | 9=>9 | 5=>5 | 3=>3 | n=>n,fun | n=>n⟩
theorem Tryz.lays137:Go.Proofs.Lays.n137 Tryz.prog Tryz.lays137_ren:={
 mixed:=by kernel_rfl
 f137:=Tryz.func108.trans (congrArg some (by kernel_rfl))
 f217:=Tryz.func119.trans (congrArg some (by kernel_rfl))
 f266:=Tryz.func129.trans (congrArg some (by kernel_rfl))
 t3:=Tryz.underlying3
 a3:=Tryz.isAgg3
 z3:=Tryz.sizeOf3
 v3:=Tryz.zeroValue3
 t5:=Tryz.underlying5
 a5:=Tryz.isAgg5
 z5:=Tryz.sizeOf5
 v5:=Tryz.zeroValue5
 t9:=Tryz.underlying9
 a9:=Tryz.isAgg9
 z9:=Tryz.sizeOf9
 v9:=Tryz.zeroValue9 }
open Go.RowKit in
theorem Tryz.strings_IndexByte (s : ByteArray) (c : Int) (w : World) :
  Calls Tryz.prog 108 #[.string s, .int .u8 c] w fun e w' => e = .returned (.int .i64 (Lib.indexByte s.data.toList c.toNat.toUInt8)) ∧ w' = w := Any.strings_IndexByte Tryz.lays137 s c w
def Tryz.laysM171_ren:Go.Shelf.Ren:=⟨fun | 171=>60 | 243=>109 | 246=>120 | 283=>130 | 284=>131 | 285=>132 | 286=>133 | 129=>140 | 317=>139 | 318=>141 | 319=>142 | 320=>143 | 337=>146 | 338=>147 | n=>n,fun | 3=>3 | 9=>9 | 2=>2 | 4=>4 | 171=>192 | 0=>0 | 53=>193 | 37=>174 | 5=>5 | 173=>196 | 212=>210 | 51=>211 | 20=>20 | 213=>212 | 46=>203 | 232=>220 | 233=>221 | n=>n,fun | 17=>4 | 18=>5 | 19=>6 | n=>n⟩
theorem Tryz.laysM171:Go.Proofs.LaysM.n171 Tryz.prog Tryz.laysM171_ren:={
 mixed:=by kernel_rfl
 f129:=Tryz.func140.trans (congrArg some (by kernel_rfl))
 f171:=Tryz.func60.trans (congrArg some (by kernel_rfl))
 f243:=Tryz.func109.trans (congrArg some (by kernel_rfl))
 f246:=Tryz.func120.trans (congrArg some (by kernel_rfl))
 f283:=Tryz.func130.trans (congrArg some (by kernel_rfl))
 f284:=Tryz.func131.trans (congrArg some (by kernel_rfl))
 f285:=Tryz.func132.trans (congrArg some (by kernel_rfl))
 f286:=Tryz.func133.trans (congrArg some (by kernel_rfl))
 f317:=Tryz.func139.trans (congrArg some (by kernel_rfl))
 f318:=Tryz.func141.trans (congrArg some (by kernel_rfl))
 f319:=Tryz.func142.trans (congrArg some (by kernel_rfl))
 f320:=Tryz.func143.trans (congrArg some (by kernel_rfl))
 f337:=Tryz.func146.trans (congrArg some (by kernel_rfl))
 f338:=Tryz.func147.trans (congrArg some (by kernel_rfl))
 t0:=Tryz.underlying0
 a0:=Tryz.isAgg0
 z0:=Tryz.sizeOf0
 v0:=Tryz.zeroValue0
 t2:=Tryz.underlying2
 a2:=Tryz.isAgg2
 z2:=Tryz.sizeOf2
 v2:=Tryz.zeroValue2
 t3:=Tryz.underlying3
 a3:=Tryz.isAgg3
 z3:=Tryz.sizeOf3
 v3:=Tryz.zeroValue3
 t4:=Tryz.underlying4
 a4:=Tryz.isAgg4
 z4:=Tryz.sizeOf4
 v4:=Tryz.zeroValue4
 t5:=Tryz.underlying5
 a5:=Tryz.isAgg5
 z5:=Tryz.sizeOf5
 v5:=Tryz.zeroValue5
 t9:=Tryz.underlying9
 a9:=Tryz.isAgg9
 z9:=Tryz.sizeOf9
 v9:=Tryz.zeroValue9
 t20:=Tryz.underlying20
 a20:=Tryz.isAgg20
 z20:=Tryz.sizeOf20
 v20:=Tryz.zeroValue20
 t37:=Tryz.underlying174
 a37:=Tryz.isAgg174
 z37:=Tryz.sizeOf174
 v37:=Tryz.zeroValue174
 t46:=Tryz.underlying203
 a46:=Tryz.isAgg203
 z46:=Tryz.sizeOf203
 v46:=Tryz.zeroValue203
 t51:=Tryz.underlying211
 a51:=Tryz.isAgg211
 z51:=Tryz.sizeOf211
 v51:=Tryz.zeroValue211
 t53:=Tryz.underlying193
 a53:=Tryz.isAgg193
 z53:=Tryz.sizeOf193
 v53:=Tryz.zeroValue193
 t171:=Tryz.underlying192
 a171:=Tryz.isAgg192
 z171:=Tryz.sizeOf192
 v171:=Tryz.zeroValue192
 t173:=Tryz.underlying196
 a173:=Tryz.isAgg196
 z173:=Tryz.sizeOf196
 v173:=Tryz.zeroValue196
 t212:=Tryz.underlying210
 a212:=Tryz.isAgg210
 z212:=Tryz.sizeOf210
 v212:=Tryz.zeroValue210
 t213:=Tryz.underlying212
 a213:=Tryz.isAgg212
 z213:=Tryz.sizeOf212
 t232:=Tryz.underlying220
 a232:=Tryz.isAgg220
 z232:=Tryz.sizeOf220
 v232:=Tryz.zeroValue220
 t233:=Tryz.underlying221
 a233:=Tryz.isAgg221
 z233:=Tryz.sizeOf221
 v233:=Tryz.zeroValue221
 g17:=by kernel_rfl
 g18:=by kernel_rfl
 g19:=by kernel_rfl
 i0:=by kernel_rfl
 i2:=by kernel_rfl
 i3:=by kernel_rfl
 i4:=by kernel_rfl
 i5:=by kernel_rfl
 i9:=by kernel_rfl
 i20:=by kernel_rfl
 i37:=by kernel_rfl
 i46:=by kernel_rfl
 i51:=by kernel_rfl
 i53:=by kernel_rfl
 i171:=by kernel_rfl
 i173:=by kernel_rfl
 i212:=by kernel_rfl
 i232:=by kernel_rfl
 i233:=by kernel_rfl
 m17:=by kernel_rfl
 m18:=by kernel_rfl
 m19:=by kernel_rfl }
open Go.RowKit Go.Sort Go.Lib in
theorem Tryz.strconv_Itoa (n : Int) (h0 : -9223372036854775808 ≤ n) (h1 : n ≤ 9223372036854775807) (w : World) (htab : Lib.TabIs Tryz.prog w "internal/strconv.uint64pow10" .u64 Lib.pow10Tab) :
  Calls Tryz.prog 60 #[.int .i64 n] w fun e w' => e = .returned (.string ⟨(Lib.itoa n).toArray⟩) ∧ ∃ k os, w' = grow (w.drewN k) os := Any.strconv_Itoa Tryz.laysM171 n h0 h1 w htab
def Tryz.laysC172_ren:Go.Shelf.Ren:=⟨fun | 172=>106 | 244=>116 | 245=>117 | 247=>124 | 279=>125 | 280=>126 | 281=>127 | 282=>128 | 287=>136 | 316=>137 | 171=>60 | 205=>138 | 321=>144 | 322=>145 | 243=>109 | 246=>120 | 283=>130 | 284=>131 | 285=>132 | 286=>133 | 129=>140 | 317=>139 | 318=>141 | 319=>142 | 320=>143 | 337=>146 | 338=>147 | n=>n,fun | 9=>9 | 3=>3 | 75=>169 | 76=>170 | 4=>4 | 5=>5 | 167=>186 | 37=>174 | 0=>0 | 85=>187 | 2=>2 | 168=>189 | 53=>193 | 175=>201 | 46=>203 | 210=>206 | 127=>184 | 145=>218 | 143=>216 | 21=>21 | 171=>192 | 173=>196 | 212=>210 | 51=>211 | 20=>20 | 213=>212 | 232=>220 | 233=>221 | 80=>178 | n=>n,fun | 15=>1 | 16=>2 | 17=>4 | 18=>5 | 19=>6 | n=>n⟩
theorem Tryz.laysC172:Go.Proofs.LaysC.n172 Tryz.prog Tryz.laysC172_ren:={
 mixed:=by kernel_rfl
 f129:=Tryz.func140.trans (congrArg some (by kernel_rfl))
 f171:=Tryz.func60.trans (congrArg some (by kernel_rfl))
 f172:=Tryz.func106.trans (congrArg some (by kernel_rfl))
 f205:=Tryz.func138.trans (congrArg some (by kernel_rfl))
 f243:=Tryz.func109.trans (congrArg some (by kernel_rfl))
 f244:=Tryz.func116.trans (congrArg some (by kernel_rfl))
 f245:=Tryz.func117.trans (congrArg some (by kernel_rfl))
 f246:=Tryz.func120.trans (congrArg some (by kernel_rfl))
 f247:=Tryz.func124.trans (congrArg some (by kernel_rfl))
 f279:=Tryz.func125.trans (congrArg some (by kernel_rfl))
 f280:=Tryz.func126.trans (congrArg some (by kernel_rfl))
 f281:=Tryz.func127.trans (congrArg some (by kernel_rfl))
 f282:=Tryz.func128.trans (congrArg some (by kernel_rfl))
 f283:=Tryz.func130.trans (congrArg some (by kernel_rfl))
 f284:=Tryz.func131.trans (congrArg some (by kernel_rfl))
 f285:=Tryz.func132.trans (congrArg some (by kernel_rfl))
 f286:=Tryz.func133.trans (congrArg some (by kernel_rfl))
 f287:=Tryz.func136.trans (congrArg some (by kernel_rfl))
 f316:=Tryz.func137.trans (congrArg some (by kernel_rfl))
 f317:=Tryz.func139.trans (congrArg some (by kernel_rfl))
 f318:=Tryz.func141.trans (congrArg some (by kernel_rfl))
 f319:=Tryz.func142.trans (congrArg some (by kernel_rfl))
 f320:=Tryz.func143.trans (congrArg some (by kernel_rfl))
 f321:=Tryz.func144.trans (congrArg some (by kernel_rfl))
 f322:=Tryz.func145.trans (congrArg some (by kernel_rfl))
 f337:=Tryz.func146.trans (congrArg some (by kernel_rfl))
 f338:=Tryz.func147.trans (congrArg some (by kernel_rfl))
 t0:=Tryz.underlying0
 a0:=Tryz.isAgg0
 z0:=Tryz.sizeOf0
 v0:=Tryz.zeroValue0
 t2:=Tryz.underlying2
 a2:=Tryz.isAgg2
 z2:=Tryz.sizeOf2
 v2:=Tryz.zeroValue2
 t3:=Tryz.underlying3
 a3:=Tryz.isAgg3
 z3:=Tryz.sizeOf3
 v3:=Tryz.zeroValue3
 t4:=Tryz.underlying4
 a4:=Tryz.isAgg4
 z4:=Tryz.sizeOf4
 v4:=Tryz.zeroValue4
 t5:=Tryz.underlying5
 a5:=Tryz.isAgg5
 z5:=Tryz.sizeOf5
 v5:=Tryz.zeroValue5
 t9:=Tryz.underlying9
 a9:=Tryz.isAgg9
 z9:=Tryz.sizeOf9
 v9:=Tryz.zeroValue9
 t20:=Tryz.underlying20
 a20:=Tryz.isAgg20
 z20:=Tryz.sizeOf20
 v20:=Tryz.zeroValue20
 t21:=Tryz.underlying21
 a21:=Tryz.isAgg21
 z21:=Tryz.sizeOf21
 v21:=Tryz.zeroValue21
 t37:=Tryz.underlying174
 a37:=Tryz.isAgg174
 z37:=Tryz.sizeOf174
 v37:=Tryz.zeroValue174
 t46:=Tryz.underlying203
 a46:=Tryz.isAgg203
 z46:=Tryz.sizeOf203
 v46:=Tryz.zeroValue203
 t51:=Tryz.underlying211
 a51:=Tryz.isAgg211
 z51:=Tryz.sizeOf211
 v51:=Tryz.zeroValue211
 t53:=Tryz.underlying193
 a53:=Tryz.isAgg193
 z53:=Tryz.sizeOf193
 v53:=Tryz.zeroValue193
 t75:=Tryz.underlying169
 a75:=Tryz.isAgg169
 z75:=Tryz.sizeOf169
 v75:=Tryz.zeroValue169
 t76:=Tryz.underlying170
 a76:=Tryz.isAgg170
 z76:=Tryz.sizeOf170
 v76:=Tryz.zeroValue170
 t85:=Tryz.underlying187
 a85:=Tryz.isAgg187
 z85:=Tryz.sizeOf187
 v85:=Tryz.zeroValue187
 t127:=Tryz.underlying184
 a127:=Tryz.isAgg184
 z127:=Tryz.sizeOf184
 v127:=Tryz.zeroValue184
 t143:=Tryz.underlying216
 a143:=Tryz.isAgg216
 z143:=Tryz.sizeOf216
 v143:=Tryz.zeroValue216
 t145:=Tryz.underlying218
 a145:=Tryz.isAgg218
 z145:=Tryz.sizeOf218
 v145:=Tryz.zeroValue218
 t167:=Tryz.underlying186
 a167:=Tryz.isAgg186
 z167:=Tryz.sizeOf186
 v167:=Tryz.zeroValue186
 t168:=Tryz.underlying189
 a168:=Tryz.isAgg189
 z168:=Tryz.sizeOf189
 v168:=Tryz.zeroValue189
 t171:=Tryz.underlying192
 a171:=Tryz.isAgg192
 z171:=Tryz.sizeOf192
 v171:=Tryz.zeroValue192
 t173:=Tryz.underlying196
 a173:=Tryz.isAgg196
 z173:=Tryz.sizeOf196
 v173:=Tryz.zeroValue196
 t175:=Tryz.underlying201
 a175:=Tryz.isAgg201
 z175:=Tryz.sizeOf201
 v175:=Tryz.zeroValue201
 t210:=Tryz.underlying206
 a210:=Tryz.isAgg206
 z210:=Tryz.sizeOf206
 v210:=Tryz.zeroValue206
 t212:=Tryz.underlying210
 a212:=Tryz.isAgg210
 z212:=Tryz.sizeOf210
 v212:=Tryz.zeroValue210
 t213:=Tryz.underlying212
 a213:=Tryz.isAgg212
 z213:=Tryz.sizeOf212
 t232:=Tryz.underlying220
 a232:=Tryz.isAgg220
 z232:=Tryz.sizeOf220
 v232:=Tryz.zeroValue220
 t233:=Tryz.underlying221
 a233:=Tryz.isAgg221
 z233:=Tryz.sizeOf221
 v233:=Tryz.zeroValue221
 g15:=by kernel_rfl
 g16:=by kernel_rfl
 g17:=by kernel_rfl
 g18:=by kernel_rfl
 g19:=by kernel_rfl
 t80:=Tryz.underlying178
 a80:=Tryz.isAgg178
 z80:=Tryz.sizeOf178
 v80:=Tryz.zeroValue178
 i0:=by kernel_rfl
 i2:=by kernel_rfl
 i3:=by kernel_rfl
 i4:=by kernel_rfl
 i5:=by kernel_rfl
 i9:=by kernel_rfl
 i20:=by kernel_rfl
 i21:=by kernel_rfl
 i37:=by kernel_rfl
 i46:=by kernel_rfl
 i51:=by kernel_rfl
 i53:=by kernel_rfl
 i75:=by kernel_rfl
 i76:=by kernel_rfl
 i80:=by kernel_rfl
 i85:=by kernel_rfl
 i127:=by kernel_rfl
 i143:=by kernel_rfl
 i145:=by kernel_rfl
 i167:=by kernel_rfl
 i168:=by kernel_rfl
 i171:=by kernel_rfl
 i173:=by kernel_rfl
 i175:=by kernel_rfl
 i210:=by kernel_rfl
 i212:=by kernel_rfl
 i232:=by kernel_rfl
 i233:=by kernel_rfl
 m15:=by kernel_rfl
 m16:=by kernel_rfl
 m17:=by kernel_rfl
 m18:=by kernel_rfl
 m19:=by kernel_rfl
 c0:=by kernel_rfl
 c2:=by kernel_rfl
 c3:=by kernel_rfl
 c4:=by kernel_rfl
 c5:=by kernel_rfl
 c9:=by kernel_rfl
 c20:=by kernel_rfl
 c21:=by kernel_rfl
 c37:=by kernel_rfl
 c46:=by kernel_rfl
 c51:=by kernel_rfl
 c53:=by kernel_rfl
 c75:=by kernel_rfl
 c76:=by kernel_rfl
 c80:=by kernel_rfl
 c85:=by kernel_rfl
 c127:=by kernel_rfl
 c143:=by kernel_rfl
 c145:=by kernel_rfl
 c167:=by kernel_rfl
 c168:=by kernel_rfl
 c171:=by kernel_rfl
 c173:=by kernel_rfl
 c175:=by kernel_rfl
 c210:=by kernel_rfl
 c212:=by kernel_rfl
 c213:=by kernel_rfl
 c232:=by kernel_rfl
 c233:=by kernel_rfl }
open Go.RowKit in
theorem Tryz.strconv_Atoi_ok (s : ByteArray) (hmax : s.size ≤ 9223372036854775806) (v : Int) (h : Lib.atoiAll s.data.toList = .ok v) (w : World) :
  Calls Tryz.prog 106 #[.string s] w fun e w' => e = .returned (.tuple #[.int .i64 v, .nilIface]) ∧ (w' = w ∨ ∃ t, w' = Lib.bytesWorld w 5 t) := Any.strconv_Atoi_ok Tryz.laysC172 s hmax v h w
open Go.RowKit in
theorem Tryz.strconv_Atoi_syntax_var (s : ByteArray) (hlim : s.size ≤ 281474976710656) (h : Lib.atoiAll s.data.toList = Lib.NumEnd.syntax) (tp : TypeId) (p : Value) (w : World) (hvar : w.var? Tryz.prog "strconv.ErrSyntax" = some #[.iface tp p]) :
  Calls Tryz.prog 106 #[.string s] w fun e w' => ∃ N, e = .returned (.tuple #[.int .i64 0, .iface 189 (.pointer (some ⟨N, 0, none⟩))]) ∧ w.heap.size ≤ N ∧ w'.heap[N]? = some (.cells #[.string ⟨#[65, 116, 111, 105]⟩, .string s, .iface tp p] 206 (0, 0)) ∧ Below w.heap.size w w' := Any.strconv_Atoi_syntax_var Tryz.laysC172 s hlim h tp p w hvar
open Go.RowKit in
theorem Tryz.strconv_Atoi_range_var (s : ByteArray) (hlim : s.size ≤ 281474976710656) (h : Lib.atoiAll s.data.toList = .range) (tp : TypeId) (p : Value) (w : World) (hvar : w.var? Tryz.prog "strconv.ErrRange" = some #[.iface tp p]) :
  Calls Tryz.prog 106 #[.string s] w fun e w' => ∃ N, e = .returned (.tuple #[.int .i64 (Lib.atoiSat s.data.toList), .iface 189 (.pointer (some ⟨N, 0, none⟩))]) ∧ w.heap.size ≤ N ∧ w'.heap[N]? = some (.cells #[.string ⟨#[65, 116, 111, 105]⟩, .string s, .iface tp p] 206 (0, 0)) ∧ Below w.heap.size w w' := Any.strconv_Atoi_range_var Tryz.laysC172 s hlim h tp p w hvar
end Go.Proofs
namespace Go.Am
open Go Go.Proofs
set_option linter.unusedVariables false
set_option linter.unusedSimpArgs false
theorem Aeo {w w':World}{s:String}(hs:(Tryz.prog.globalNamed s).all (fun g=>Nat.blt g 7)=true)(e : ∀ b,b<7→w'.heap[b]? = w.heap[b]?):w'.var? Tryz.prog s=w.var? Tryz.prog s:=by
 unfold World.var?
 cases hq:Tryz.prog.globalNamed s with
 | none=>rfl
 | some g=>
  rw [hq] at hs
  simp only [Option.bind_some]
  rw [e g (by simpa using hs)]
def GWp (w : World) : Prop := ((∃ tp p, w.var? Tryz.prog "strconv.ErrRange" = some #[.iface tp p])) ∧ ((∃ tp p, w.var? Tryz.prog "strconv.ErrSyntax" = some #[.iface tp p])) ∧ (Lib.TabIs Tryz.prog w "internal/strconv.uint64pow10" .u64 Lib.pow10Tab)
theorem Ana {w w':World}(e : ∀ b,b<7→w'.heap[b]? = w.heap[b]?)(k:GWp w):GWp w':=⟨(by obtain⟨tp,p,h⟩:=k.1; exact⟨tp,p,by rw [Aeo (by kernel_rfl) e]; exact h⟩),(by obtain⟨tp,p,h⟩:=k.2.1; exact⟨tp,p,by rw [Aeo (by kernel_rfl) e]; exact h⟩),(by rw [Lib.TabIs,Aeo (by kernel_rfl) e]; exact k.2.2)⟩
def Nz:List (Au×Au×FuncId):=[([97,105,114,112,111,114,116],[111,118,101,114,102,108,105,103,104,116,47,115,121,110,116,97,120,46,100,101,102,105,110,105,116,105,111,110,115,36,54],189),([99,108,97,115,115],[111,118,101,114,102,108,105,103,104,116,47,115,121,110,116,97,120,46,100,101,102,105,110,105,116,105,111,110,115,36,55],194),([99,111,110,102,105,103],[111,118,101,114,102,108,105,103,104,116,47,115,121,110,116,97,120,46,100,101,102,105,110,105,116,105,111,110,115,36,51],180),([99,117,114,102,101,119],[111,118,101,114,102,108,105,103,104,116,47,115,121,110,116,97,120,46,100,101,102,105,110,105,116,105,111,110,115,36,56],197),([101,120,101,109,112,116],[111,118,101,114,102,108,105,103,104,116,47,115,121,110,116,97,120,46,100,101,102,105,110,105,116,105,111,110,115,36,57],201),([108,111,110,103,101,115,116],[111,118,101,114,102,108,105,103,104,116,47,115,121,110,116,97,120,46,100,101,102,105,110,105,116,105,111,110,115,36,49,49],205),([114,111,117,116,101],[111,118,101,114,102,108,105,103,104,116,47,115,121,110,116,97,120,46,100,101,102,105,110,105,116,105,111,110,115,36,53],186),([115,101,99,116,111,114],[111,118,101,114,102,108,105,103,104,116,47,115,121,110,116,97,120,46,100,101,102,105,110,105,116,105,111,110,115,36,50],172),([115,101,103,109,101,110,116],[111,118,101,114,102,108,105,103,104,116,47,115,121,110,116,97,120,46,100,101,102,105,110,105,116,105,111,110,115,36,52],183),([118,111,108,117,109,101],[111,118,101,114,102,108,105,103,104,116,47,115,121,110,116,97,120,46,100,101,102,105,110,105,116,105,111,110,115,36,49],168),([119,101,105,103,104,116],[111,118,101,114,102,108,105,103,104,116,47,115,121,110,116,97,120,46,100,101,102,105,110,105,116,105,111,110,115,36,49,48],203)]
instance gwI:GW Tryz.prog where
 n:=7
 G:=fun m w=>GWp w∧FMapAt w m 0 (Jv Nz)
 keep:=fun hn e k=>⟨Ana (fun b hb=>e b (Nat.lt_of_lt_of_le hb hn)) k.1,k.2.keep (Nat.lt_of_lt_of_le (by decide) hn) e⟩
 row:=fun b=>if b=0 then some [.mapc (Jv Nz)] else none
 rowOk:=by
  intro m w b r hn hm k hr
  by_cases h0:b=0
  ·subst h0
   simp at hr
   subst hr
   refine⟨by decide,fun mu M hM j hj=>?_⟩
   obtain rfl:j=0:=by simpa using hj
   exact k.2.rv hm hM
  simp [h0] at hr
theorem Ae3 {m : Nat} {w : World} (k : GW.G Tryz.prog m w) : (∃ tp p, w.var? Tryz.prog "strconv.ErrRange" = some #[.iface tp p]) := k.1.1
theorem Ads {m : Nat} {w : World} (k : GW.G Tryz.prog m w) : (∃ tp p, w.var? Tryz.prog "strconv.ErrSyntax" = some #[.iface tp p]) := k.1.2.1
theorem Ai4 {m : Nat} {w : World} (k : GW.G Tryz.prog m w) : Lib.TabIs Tryz.prog w "internal/strconv.uint64pow10" .u64 Lib.pow10Tab := k.1.2.2
theorem Et:Tryz.prog.follows .mixedOrders=true:=by kernel_rfl
theorem D0:ti Tryz.prog 3=some ⟨.int .i64,1,8,[.int .i64 0]⟩:=by kernel_rfl
theorem Pi:ti Tryz.prog 4=some ⟨.bool,1,1,[.bool false]⟩:=by kernel_rfl
theorem Co:ti Tryz.prog 9=some ⟨.str,1,16,[.str []]⟩:=by kernel_rfl
theorem Ag2:ti Tryz.prog 20=some ⟨.ifc,1,16,[.nili]⟩:=by kernel_rfl
theorem Ew:ti Tryz.prog 23=some ⟨.sl 54,1,24,[.emp]⟩:=by kernel_rfl
theorem Fr:ti Tryz.prog 24=some ⟨.sl 58,1,24,[.emp]⟩:=by kernel_rfl
theorem Gl:ti Tryz.prog 25=some ⟨.sl 77,1,24,[.emp]⟩:=by kernel_rfl
theorem Gk:ti Tryz.prog 26=some ⟨.sl 79,1,24,[.emp]⟩:=by kernel_rfl
theorem Gi:ti Tryz.prog 27=some ⟨.sl 81,1,24,[.emp]⟩:=by kernel_rfl
theorem F6:ti Tryz.prog 28=some ⟨.sl 51,1,24,[.emp]⟩:=by kernel_rfl
theorem Fs:ti Tryz.prog 29=some ⟨.sl 85,1,24,[.emp]⟩:=by kernel_rfl
theorem Dz:ti Tryz.prog 30=some ⟨.sl 62,1,24,[.emp]⟩:=by kernel_rfl
theorem Ce:ti Tryz.prog 32=some ⟨.st [(0,23),(1,24),(2,25),(3,26),(4,27),(5,28),(6,29),(7,30)],8,192,[.emp,.emp,.emp,.emp,.emp,.emp,.emp,.emp]⟩:=by kernel_rfl
theorem Mq:ti Tryz.prog 33=some ⟨.int .i64,1,8,[.int .i64 0]⟩:=by kernel_rfl
theorem Cp:ti Tryz.prog 42=some ⟨.sl 47,1,24,[.emp]⟩:=by kernel_rfl
theorem C3:ti Tryz.prog 47=some ⟨.st [(0,3),(1,9),(2,3),(3,3)],4,40,[.int .i64 0,.str [],.int .i64 0,.int .i64 0]⟩:=by kernel_rfl
theorem M6:ti Tryz.prog 49=some ⟨.sl 83,1,24,[.emp]⟩:=by kernel_rfl
theorem Hr:ti Tryz.prog 51=some ⟨.st [(0,9),(1,49)],2,40,[.str [],.emp]⟩:=by kernel_rfl
theorem L3:ti Tryz.prog 52=some ⟨.sl 60,1,24,[.emp]⟩:=by kernel_rfl
theorem If:ti Tryz.prog 54=some ⟨.st [(0,9),(1,52)],2,40,[.str [],.emp]⟩:=by kernel_rfl
theorem Dt:ti Tryz.prog 55=some ⟨.sl 9,1,24,[.emp]⟩:=by kernel_rfl
theorem Pu:ti Tryz.prog 56=some ⟨.sl 3,1,24,[.emp]⟩:=by kernel_rfl
theorem Gq:ti Tryz.prog 58=some ⟨.st [(0,9),(1,55),(2,56),(3,3),(4,3)],5,80,[.str [],.emp,.emp,.int .i64 0,.int .i64 0]⟩:=by kernel_rfl
theorem K1:ti Tryz.prog 60=some ⟨.st [(0,3),(1,3)],2,16,[.int .i64 0,.int .i64 0]⟩:=by kernel_rfl
theorem Dk:ti Tryz.prog 62=some ⟨.st [(0,3),(1,9),(2,9),(3,3),(4,3),(5,3),(6,60)],8,80,[.int .i64 0,.str [],.str [],.int .i64 0,.int .i64 0,.int .i64 0,.int .i64 0,.int .i64 0]⟩:=by kernel_rfl
theorem Zf:ti Tryz.prog 64=some ⟨.st [(0,3),(1,33)],2,16,[.int .i64 0,.int .i64 0]⟩:=by kernel_rfl
theorem Rt:ti Tryz.prog 66=some ⟨.ptr 68,1,8,[.nilp]⟩:=by kernel_rfl
theorem X9:ti Tryz.prog 68=some ⟨.st [(0,42),(1,3),(2,32)],10,224,[.emp,.int .i64 0,.emp,.emp,.emp,.emp,.emp,.emp,.emp,.emp]⟩:=by kernel_rfl
theorem Jg:ti Tryz.prog 77=some ⟨.st [(0,9),(1,55),(2,56)],3,64,[.str [],.emp,.emp]⟩:=by kernel_rfl
theorem Hq:ti Tryz.prog 79=some ⟨.st [(0,9),(1,9),(2,3),(3,3),(4,52)],5,72,[.str [],.str [],.int .i64 0,.int .i64 0,.emp]⟩:=by kernel_rfl
theorem Hp:ti Tryz.prog 81=some ⟨.st [(0,9),(1,9),(2,9),(3,3),(4,3),(5,55),(6,56)],7,112,[.str [],.str [],.str [],.int .i64 0,.int .i64 0,.emp,.emp]⟩:=by kernel_rfl
theorem Oe:ti Tryz.prog 83=some ⟨.st [(0,9),(1,3)],2,24,[.str [],.int .i64 0]⟩:=by kernel_rfl
theorem Kd:ti Tryz.prog 85=some ⟨.st [(0,9),(1,3),(2,3),(3,3)],4,40,[.str [],.int .i64 0,.int .i64 0,.int .i64 0]⟩:=by kernel_rfl
theorem Abp:ti Tryz.prog 87=some ⟨.ptr 89,1,8,[.nilp]⟩:=by kernel_rfl
theorem Wb:ti Tryz.prog 89=some ⟨.st [(0,42),(1,4)],2,32,[.emp,.bool false]⟩:=by kernel_rfl
theorem Ak6:ti Tryz.prog 113=some ⟨.int .i64,1,8,[.int .i64 0]⟩:=by kernel_rfl
theorem Zh:ti Tryz.prog 114=some ⟨.fn,1,8,[.nilf]⟩:=by kernel_rfl
theorem Vt:ti Tryz.prog 115=some ⟨.arr 6 114,6,48,[.nilf,.nilf,.nilf,.nilf,.nilf,.nilf]⟩:=by kernel_rfl
theorem Ald:ti Tryz.prog 117=some ⟨.st [(0,115)],6,48,[.nilf,.nilf,.nilf,.nilf,.nilf,.nilf]⟩:=by kernel_rfl
theorem N8:ti Tryz.prog 120=some ⟨.st [(0,9),(1,3),(2,42)],3,48,[.str [],.int .i64 0,.emp]⟩:=by kernel_rfl
theorem Qq:ti Tryz.prog 140=some ⟨.fn,1,8,[.nilf]⟩:=by kernel_rfl
theorem P8:ti Tryz.prog 142=some ⟨.map 9 140,1,8,[.mnil]⟩:=by kernel_rfl
theorem Apb:ti Tryz.prog 169=some ⟨.ifc,1,16,[.nili]⟩:=by kernel_rfl
theorem Ag3:Ib Tryz.prog [(0,23),(1,24),(2,25),(3,26),(4,27),(5,28),(6,29),(7,30)]=some [(0,1),(1,1),(2,1),(3,1),(4,1),(5,1),(6,1),(7,1)]:=by kernel_rfl
theorem Aon:Ib Tryz.prog [(0,9),(1,49)]=some [(0,1),(1,1)]:=by kernel_rfl
theorem An5:Ib Tryz.prog [(0,9),(1,52)]=some [(0,1),(1,1)]:=by kernel_rfl
theorem Aof:Ib Tryz.prog [(0,9),(1,55),(2,56),(3,3),(4,3)]=some [(0,1),(1,1),(2,1),(3,1),(4,1)]:=by kernel_rfl
theorem Apv:Ib Tryz.prog [(0,42),(1,3),(2,32)]=some [(0,1),(1,1),(2,8)]:=by kernel_rfl
theorem Apt:Ib Tryz.prog [(0,9),(1,55),(2,56)]=some [(0,1),(1,1),(2,1)]:=by kernel_rfl
theorem App:Ib Tryz.prog [(0,42),(1,4)]=some [(0,1),(1,1)]:=by kernel_rfl
theorem Ait {o:BinOp}{x y:Operand}{a b:AV}(ha:a.isAgg=true)(hb:b.isAgg=true):Lo Tryz.prog o 60 x y a b=true:=Vq ha hb (by kernel_rfl)
theorem Aid {aFrom:Int}{aTo:Int}{bFrom:Int}{bTo:Int}:Na Tryz.prog .neq 60 (AV.agg [(.int .i64 aFrom),(.int .i64 aTo)]) (AV.agg [(.int .i64 bFrom),(.int .i64 bTo)])=some (.bool (!((aFrom==bFrom)&&(aTo==bTo)))):=by
 have he60:T9 Tryz.prog 60=true:=by kernel_rfl
 simp only [Na,T5,he60,if_true,List.drop_succ_cons,List.drop_zero,List.take_succ_cons,List.take_zero,List.take_nil,Zm,Xg,Qs,Kg,D0,K1,TK.agg,Nat.reduceAdd,Nat.reduceLT,Nat.reduceLeDiff,List.length_cons,List.length_nil,List.getD_cons_zero,List.getD_cons_succ,Vr,Bool.and_true,Option.map_some,if_false,Bool.false_eq_true,reduceCtorEq,Nat.zero_add]
 try rfl
theorem Aec {o:BinOp}{x y:Operand}{a b:AV}(ha:a.isAgg=true)(hb:b.isAgg=true):Lo Tryz.prog o 62 x y a b=true:=Vq ha hb (by kernel_rfl)
theorem Ad1 {aKind:Int}{aC:Au}{aA:Au}{aClass:Int}{aAirport:Int}{aN:Int}{aHours_From:Int}{aHours_To:Int}{bKind:Int}{bC:Au}{bA:Au}{bClass:Int}{bAirport:Int}{bN:Int}{bHours_From:Int}{bHours_To:Int}:Na Tryz.prog .neq 62 (AV.agg [(.int .i64 aKind),(.str aC),(.str aA),(.int .i64 aClass),(.int .i64 aAirport),(.int .i64 aN),(.int .i64 aHours_From),(.int .i64 aHours_To)]) (AV.agg [(.int .i64 bKind),(.str bC),(.str bA),(.int .i64 bClass),(.int .i64 bAirport),(.int .i64 bN),(.int .i64 bHours_From),(.int .i64 bHours_To)])=some (.bool (!((aKind==bKind)&&((aC==bC)&&((aA==bA)&&((aClass==bClass)&&((aAirport==bAirport)&&((aN==bN)&&((aHours_From==bHours_From)&&(aHours_To==bHours_To)))))))))):=by
 have he60:T9 Tryz.prog 60=true:=by kernel_rfl
 have he62:T9 Tryz.prog 62=true:=by kernel_rfl
 simp only [Na,T5,he60,he62,if_true,List.drop_succ_cons,List.drop_zero,List.take_succ_cons,List.take_zero,List.take_nil,Zm,Xg,Qs,Kg,D0,Co,K1,Dk,TK.agg,Nat.reduceAdd,Nat.reduceLT,Nat.reduceLeDiff,List.length_cons,List.length_nil,List.getD_cons_zero,List.getD_cons_succ,Vr,Bool.and_true,Option.map_some,if_false,Bool.false_eq_true,reduceCtorEq,Nat.zero_add]
 try rfl
theorem Ah0 {o:BinOp}{x y:Operand}{a b:AV}(ha:a.isAgg=true)(hb:b.isAgg=true):Lo Tryz.prog o 83 x y a b=true:=Vq ha hb (by kernel_rfl)
theorem Aiz {aName:Au}{Ib:Int}{bName:Au}{bPlaces:Int}:Na Tryz.prog .neq 83 (AV.agg [(.str aName),(.int .i64 Ib)]) (AV.agg [(.str bName),(.int .i64 bPlaces)])=some (.bool (!((aName==bName)&&(Ib==bPlaces)))):=by
 have he83:T9 Tryz.prog 83=true:=by kernel_rfl
 simp only [Na,T5,he83,if_true,List.drop_succ_cons,List.drop_zero,List.take_succ_cons,List.take_zero,List.take_nil,Zm,Xg,Qs,Kg,D0,Co,Oe,TK.agg,Nat.reduceAdd,Nat.reduceLT,Nat.reduceLeDiff,List.length_cons,List.length_nil,List.getD_cons_zero,List.getD_cons_succ,Vr,Bool.and_true,Option.map_some,if_false,Bool.false_eq_true,reduceCtorEq,Nat.zero_add]
 try rfl
theorem Ah9 {o:BinOp}{x y:Operand}{a b:AV}(ha:a.isAgg=true)(hb:b.isAgg=true):Lo Tryz.prog o 85 x y a b=true:=Vq ha hb (by kernel_rfl)
theorem Aiq {aName:Au}{aSlow:Int}{aFast:Int}{Ib:Int}{bName:Au}{bSlow:Int}{bFast:Int}{bPlaces:Int}:Na Tryz.prog .neq 85 (AV.agg [(.str aName),(.int .i64 aSlow),(.int .i64 aFast),(.int .i64 Ib)]) (AV.agg [(.str bName),(.int .i64 bSlow),(.int .i64 bFast),(.int .i64 bPlaces)])=some (.bool (!((aName==bName)&&((aSlow==bSlow)&&((aFast==bFast)&&(Ib==bPlaces)))))):=by
 have he85:T9 Tryz.prog 85=true:=by kernel_rfl
 simp only [Na,T5,he85,if_true,List.drop_succ_cons,List.drop_zero,List.take_succ_cons,List.take_zero,List.take_nil,Zm,Xg,Qs,Kg,D0,Co,Kd,TK.agg,Nat.reduceAdd,Nat.reduceLT,Nat.reduceLeDiff,List.length_cons,List.length_nil,List.getD_cons_zero,List.getD_cons_succ,Vr,Bool.and_true,Option.map_some,if_false,Bool.false_eq_true,reduceCtorEq,Nat.zero_add]
 try rfl
end Go.Am

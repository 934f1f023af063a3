/- Written by shrink.py from texts of ours: comments struck, what is not reached left out, names short. -/
import Derived.Test.YtgigefcfankeeaaU3
import Derived.Test.YtgigefcfankeeaaU1
import Derived.Test.YtgigefcfankeeaaU2
import Derived.RangeFuncIn
import Derived.RangeFuncLeaves
import Derived.Shelf.SortM.Plain
import Derived.Shelf.SortM.SortNone
import Derived.Shelf.Slices.CompactI
import Derived.Deep.DeepHandedRow
import Derived.Lib.LaidU8
import Derived.Lay
import Derived.MakeChecks
import Derived.LaidMore
import Derived.WideKeyElems2
import Derived.KernelRfl
import Derived.Lib.SlBytesConst
import Derived.Lib.Bytealg
import Derived.Lib.ItoaNum
import Derived.Lib.Join
import Derived.Lib.AtoiAll
namespace Go.Am
open Go
set_option linter.unusedSimpArgs false
set_option linter.unusedVariables false
set_option linter.unusedSectionVars false
inductive AFz (h h2:Ag):AO→AO→Prop
 | same (x:AO):AFz h h2 x x
 | rows (g st:Nat) (rs rs':List (List AV)) (hl:rs.length=rs'.length) (hr : ∀ r ∈ rs',Es st r) (hc : ∀ i j,i<rs.length→j<st→Fz h h2 (cell rs i j) (cell rs' i j)):AFz h h2 (.rows g st rs) (.rows g st rs')
def HFz (h h2:Ag):Prop := ∀ o y,h2 o=some y → ∃ x,h o=some x∧AFz h h2 x y
theorem AFz.gen {h h2:Ag}{x y:AO}(k:AFz h h2 x y):x.gen=y.gen:=by cases k <;> rfl
theorem HFz.subG {h h2:Ag}(k:HFz h h2):Afq h2 h:=fun o y e=>let ⟨x,h1,h2⟩:=k o y e; ⟨x,h1,h2.gen⟩
theorem Sim.fz {P:Program}[GW P]{B:Base P}{mu:Mu}{h h2:Ag}{w:World}(s:Sim B mu h w)(k:HFz h h2):Sim B mu h2 w:=by
 refine⟨s.base,s.muOk,s.fin,?_,?_,?_,?_,s.glob,fun o g x e=>by
  obtain⟨y,h1,hx⟩:=k o _ e
  cases hx with
  | same _=>exact s.blks o g x h1⟩
 ·obtain⟨N,hN⟩:=s.finh
  refine⟨N,fun o ho=>?_⟩
  cases hq:h2 o with
  | none=>rfl
  | some y=>obtain⟨x,h1,_⟩:=k o y hq; rw [hN o ho] at h1; cases h1
 ·intro o g st rs e
  obtain⟨x,h1,hx⟩:=k o _ e
  cases hx with
  | same _=>
   obtain⟨l,k1,k2,k3,k4,k5,k6⟩:=s.rows o g st rs h1
   exact⟨l,k1,k2,k3,k4,k5,fun i j hi hj=>let ⟨c,c1,c2⟩:=k6 i j hi hj; ⟨c,c1,Ky s k.subG (.same _) c2⟩⟩
  | rows _ _ rs0 _ hl hr hc=>
   obtain⟨l,k1,k2,k3,k4,k5,k6⟩:=s.rows o g st rs0 h1
   exact⟨l,k1,k2,k3,by rw [← hl]; exact k4,hr,fun i j hi hj=>let ⟨c,c1,c2⟩:=k6 i j (hl ▸ hi) hj; ⟨c,c1,Ky s k.subG (hc i j (hl ▸ hi) hj) c2⟩⟩
 ·intro o g es e
  obtain⟨x,h1,hx⟩:=k o _ e
  cases hx with
  | same _=>
   obtain⟨l,k1,k2,ens,clock,k3,k4,k5⟩:=s.maps o g es h1
   exact⟨l,k1,k2,ens,clock,k3,k4,fun i hi=>⟨Ky s k.subG (.same _) (k5 i hi).1,Ky s k.subG (.same _) (k5 i hi).2⟩⟩
 ·intro o o' x x' l l' e e' h1 h2 hb
  obtain⟨y,k1,k2⟩:=k _ _ e
  obtain⟨y',k1',k2'⟩:=k _ _ e'
  exact s.inj o o' y y' l l' k1 k1' (by rw [k2.gen]; exact h1) (by rw [k2'.gen]; exact h2) hb
section
variable {P:Program} [GW P] {f:FuncId} {n:Nat} {d:FK} {fr:Nat→AV} {ds:List AD} {h h2:Ag} {u:AU} {Q:QT} {k:List Item}
theorem Aji {todo:List Item}{fr':Nat→AV}(hs:HFz h h2)(hz : ∀ t,Fz h h2 (fr t) (fr' t))(hr:E5 P f n d todo fr' ds h2 u Q):E5 P f n d todo fr ds h u Q:=by
 intro B mu w a cs p
 exact(hr B mu w a cs ⟨p.size,fun t=>Ky p.sim hs.subG (hz t) (p.fr t),p.ds.ext (Et.subG hs.subG),p.sim.fz hs,p.cs.ext (Et.subG hs.subG),p.rnd,p.fb⟩).ext (Et.subG hs.subG)
theorem Aaf {fn:Func}{vs:List AV}{v':AV}(hf:P.funcs[f]? = some fn)(hx:Hn P h fr fn.results.toList=some vs)(hs:HFz h h2)(hz:Fz h h2 (Jr vs) v')(hu:d=false)(hq:Q (.ret v') h2 u):Pa P f n d .ret fr [] h u Q:=by
 intro B mu w a cs todo mode p hm
 obtain⟨c,h1,h2'⟩:=S5 p.sim p.fr hx
 have hd:a.defers=[]:=p.ds
 have hmode:=hm.ret_inv
 refine⟨.returned c,w,cs,_,.ret v',h2,mu,u,hq,Steps.refl P _,rfl,rfl,(by subst hu; exact⟨hmode,hd,fn,hf,h1⟩),Ky p.sim hs.subG hz h2',p.sim.fz hs,(Et.subG hs.subG).g,?_⟩
 subst hu
 rfl
end
inductive HL (h h2:Ag):List (Option AO)→List (Option AO)→Prop
 | nil:HL h h2 [] []
 | keep {x:Option AO} {xs ys:List (Option AO)} (r:HL h h2 xs ys):HL h h2 (x::xs) (x::ys)
 | drop {x:Option AO} {xs ys:List (Option AO)} (r:HL h h2 xs ys):HL h h2 (x::xs) (none::ys)
 | fz {g st:Nat} {row row':List AV} {xs ys:List (Option AO)} (hz:LF h h2 row row') (hl:row'.length=st) (hf:row'.all AV.flat=true) (r:HL h h2 xs ys):HL h h2 (some (.rows g st [row])::xs) (some (.rows g st [row'])::ys)
theorem HL.get {h h2:Ag}{xs ys:List (Option AO)}(k:HL h h2 xs ys):xs.length=ys.length ∧ ∀ (j:Nat) (y:AO),ys[j]? = some (some y) → ∃ x,xs[j]? = some (some x)∧AFz h h2 x y:=by
 induction k with
 | nil=>exact⟨rfl,fun j y e=>by simp at e⟩
 | keep r ih=>
  refine⟨by simp [ih.1],fun j y e=>?_⟩
  cases j with
  | zero=>simp only [List.getElem?_cons_zero,Option.some.injEq] at e; subst e; exact⟨y,by simp,.same _⟩
  | succ j=>simpa using ih.2 j y (by simpa using e)
 | drop r ih=>
  refine⟨by simp [ih.1],fun j y e=>?_⟩
  cases j with
  | zero=>simp at e
  | succ j=>simpa using ih.2 j y (by simpa using e)
 | @fz g st row row' xs ys hz hl hf r ih=>
  refine⟨by simp [ih.1],fun j y e=>?_⟩
  cases j with
  | zero=>
   simp only [List.getElem?_cons_zero,Option.some.injEq] at e
   subst e
   refine⟨.rows g st [row],by simp only [List.getElem?_cons_zero],.rows g st [row] [row'] rfl ?_ ?_⟩
   ·intro r hr
    rw [List.mem_singleton.1 hr]
    exact⟨hl,fun v hv=>List.all_eq_true.1 hf v hv⟩
   ·intro i j hi hj
    have:i=0:=by simpa using hi
    subst this
    have:=hz.all.2 j (by rw [hz.all.1,hl]; exact hj)
    simpa [cell] using this
  | succ j=>simpa using ih.2 j y (by simpa using e)
theorem HL.hfz {h0:Ag}{ids:List Nat}{N:Nat}{xs ys:List (Option AO)}(hI:Ids h0 ids N)(hl:xs.length=N)(k:HL (hp h0 ids xs) (hp h0 ids ys) xs ys):HFz (hp h0 ids xs) (hp h0 ids ys):=by
 intro o y e
 obtain⟨k1,k2⟩:=k.get
 by_cases ho:o ∈ ids
 ·obtain⟨j,hj,rfl⟩:=List.mem_iff_getElem.1 ho
  have ej:ids[j]=ix ids j:=by simp [ix,List.getD,hj]
  rw [ej] at e ⊢
  have hjl:j<ys.length:=by rw [← k1,hl,← hI.len]; exact hj
  have hy:=hI.at (xs:=ys) (j:=j) (x:=ys[j]) (by rw [← k1,hl]) (List.getElem?_eq_getElem hjl)
  rw [hy] at e
  obtain⟨x,hx,hz⟩:=k2 j y (by rw [List.getElem?_eq_getElem hjl,e])
  exact⟨x,hI.at hl hx,hz⟩
 ·rw [Rh ho] at e
  exact⟨y,by rw [Rh ho]; exact e,.same _⟩
section
variable {P:Program} [GW P] {f:FuncId} {n:Nat} {d:FK} {β:Type} {Q:Spec β} {m:R β} {ds:List AD} {u:AU} {k:List Item} {l:List (Nat×AV)} {all:List Oper}
variable {h0:Ag} {ids:List Nat} {xs:List (Option AO)} {N:Nat}
theorem Aec {todo:List Item}(ys:List (Option AO))(l':List (Nat×AV))(hI:Ids h0 ids N)(hl:xs.length=N)(hx:HL (hp h0 ids xs) (hp h0 ids ys) xs ys)(hf:FrFz (hp h0 ids xs) (hp h0 ids ys) l l')
  (hr:WR P f n d Q m todo (A0 l') ds (hp h0 ids ys) u):WR P f n d Q m todo (A0 l) ds (hp h0 ids xs) u:=fun hb=>Aji (hx.hfz hI hl) hf.get (hr hb)
theorem Ah7 {ops:List Oper}(ys:List (Option AO))(l':List (Nat×AV))(hI:Ids h0 ids N)(hl:xs.length=N)(hx:HL (hp h0 ids xs) (hp h0 ids ys) xs ys)(hf:FrFz (hp h0 ids xs) (hp h0 ids ys) l l')
  (hr:WO P f n d Q k all m ops (A0 l') ds (hp h0 ids ys) u):WO P f n d Q k all m ops (A0 l) ds (hp h0 ids xs) u:=fun hb i hi=>Aji (hx.hfz hI hl) hf.get (hr hb i hi)
end
def Rz:List Nat→List (Option AO)→List (Option AO)
 | [],xs=>xs
 | j::js,xs=>Rz js (xs.set j none)
def Rg:List Nat→List (Option AO)→List (Option AO)→List (Option AO)
 | j::js,y::ys,xs=>(Rg js ys (xs.set j none)).set j y
 | _,_,xs=>xs
def Wc (ids:List Nat):List Nat→List Nat
 | []=>[]
 | j::js=>ix ids j::Wc ids js
def Qt (N:Nat):List Nat→Bool
 | []=>true
 | j::js=>Nat.blt j N && !js.contains j&&Qt N js
theorem Aho : ∀ (js:List Nat) (xs:List (Option AO)),(Rz js xs).length=xs.length
 | [],_=>rfl
 | j::js,xs=>by rw [Rz,Aho js]; simp
theorem Aeu : ∀ (js:List Nat) (ys xs:List (Option AO)),(Rg js ys xs).length=xs.length
 | [],_,_=>by simp [Rg]
 | _::_,[],_=>by simp [Rg]
 | j::js,y::ys,xs=>by rw [Rg,List.length_set,Aeu js]; simp
theorem Af2 : ∀ (js:List Nat) (xs:List (Option AO)) (i:Nat),xs[i]? = some none→(Rz js xs)[i]? = some none
 | [],_,_,h=>h
 | j::js,xs,i,h=>Af2 js _ i (by
  rw [List.getElem?_set]
  split
  ·rename_i hq; subst hq
   rw [if_pos]
   rcases Nat.lt_or_ge j xs.length with hh | hh
   ·exact hh
   ·rw [List.getElem?_eq_none hh] at h; cases h
  ·exact h)
theorem Ai4 : ∀ (js:List Nat) (xs:List (Option AO)) (i:Nat),i ∈ js→i<xs.length→(Rz js xs)[i]? = some none
 | j::js,xs,i,hm,hi=>by
  rcases List.mem_cons.1 hm with rfl | hm
  ·exact Af2 js _ i (by simp [hi])
  ·exact Ai4 js _ i hm (by simpa using hi)
section
variable {h0:Ag} {ids:List Nat} {N:Nat}
theorem Yw (hI:Ids h0 ids N) : ∀ {js:List Nat} {ys xs:List (Option AO)},xs.length=N→js.length=ys.length→Qt N js=true→hp (hp h0 ids (Rz js xs)) (Wc ids js) ys=hp h0 ids (Rg js ys xs)
 | [],[],xs,_,_,_=>rfl
 | j::js,y::ys,xs,hl,hj,hk=>by
  simp only [Qt,Bool.and_eq_true] at hk
  simp only [Wc,hp,Rz,Rg]
  rw [Yw hI (js:=js) (ys:=ys) (xs:=xs.set j none) (by simpa using hl) (by simpa using hj) hk.2]
  rw [hI.set (by rw [Aeu]; simpa using hl) hk.1.1]
theorem Ids.sub' (hI:Ids h0 ids N){js:List Nat}{xs:List (Option AO)}(hl:xs.length=N)(hk:Qt N js=true):Ids (hp h0 ids (Rz js xs)) (Wc ids js) js.length:=by
 have hlt : ∀ {js:List Nat},Qt N js=true → ∀ j ∈ js,j<N:=by
  intro js
  induction js with
  | nil=>intro _ j hj; cases hj
  | cons i js ih=>
   intro hk j hj
   simp only [Qt,Bool.and_eq_true] at hk
   rcases List.mem_cons.1 hj with rfl | hj
   ·simpa using hk.1.1
   ·exact ih hk.2 j hj
 have hmem : ∀ {js:List Nat} {o:Nat},o ∈ Wc ids js → ∃ j ∈ js,o=ix ids j:=by
  intro js
  induction js with
  | nil=>intro o ho; cases ho
  | cons i js ih=>
   intro o ho
   rcases List.mem_cons.1 ho with rfl | ho
   ·exact⟨i,List.mem_cons_self ..,rfl⟩
   ·obtain⟨j,h1,h2⟩:=ih ho; exact⟨j,List.mem_cons_of_mem _ h1,h2⟩
 have hinj : ∀ {i j:Nat},i<N→j<N→ix ids i=ix ids j→i=j:=by
  intro i j hi hj e
  rw [← hI.len] at hi hj
  simp only [ix,List.getD,List.getElem?_eq_getElem hi,List.getElem?_eq_getElem hj,Option.getD_some] at e
  rcases Nat.lt_trichotomy i j with hh | hh | hh
  ·exact absurd e (List.pairwise_iff_getElem.1 hI.nodup i j hi hj hh)
  ·exact hh
  ·exact absurd e.symm (List.pairwise_iff_getElem.1 hI.nodup j i hj hi hh)
 refine⟨?_,?_,?_⟩
 ·have key : ∀ {js:List Nat},Qt N js=true→(Wc ids js).Nodup:=by
   intro js
   induction js with
   | nil=>intro _; exact List.nodup_nil
   | cons i js ih=>
    intro hk
    have hk':=hk
    simp only [Qt,Bool.and_eq_true] at hk
    refine List.nodup_cons.2 ⟨fun hm=>?_,ih hk.2⟩
    obtain⟨j,h1,h2⟩:=hmem hm
    have:=hinj (by simpa using hk.1.1) (hlt hk.2 j h1) h2
    subst this
    have:=hk.1.2
    simp [h1] at this
  exact key hk
 ·intro o ho
  obtain⟨j,h1,rfl⟩:=hmem ho
  exact hI.at (by rw [Aho]; exact hl) (Ai4 js xs j h1 (by rw [hl]; exact hlt hk j h1))
 ·clear hk
  induction js with
  | nil=>rfl
  | cons i js ih=>simp only [Wc,List.length_cons]; rw [ih]
end
def Ec {α:Type}(S:α→AV→Ag→Prop)(h0:Ag)(m:R α):AR→Ag→Prop:=fun r h'=>match m with
 | .ok a => ∃ v,r=.ret v∧S a v h'
 | .pan v=>r=.panic v.av∧h'=h0
 | .bad=>False
def Aa8 {α:Type}(S:α→AV→Ag→Prop)(h0:Ag):Spec α:=⟨fun m=>m≠.bad,fun h=>h rfl,fun m r h' _=>Ec S h0 m r h'⟩
def tkf (ids:List Nat):Nat→Nat→List Nat
 | 0,_=>[]
 | k+1,j=>ix ids j::tkf ids k (j+1)
theorem Ae2 : ∀ (ids:List Nat) (k j:Nat),j+k≤ids.length→(ids.drop j).take k=tkf ids k j
 | ids,0,j,_=>by simp [tkf]
 | ids,k+1,j,h=>by
  have hj:j<ids.length:=by omega
  rw [List.drop_eq_getElem_cons hj,List.take_succ_cons,tkf,Ae2 ids k (j+1) (by omega)]
  simp [ix,List.getD,hj]
section
variable {P:Program} [GW P] {f:FuncId} {n:Nat} {α:Type} {m:R α} {S:α→AV→Ag→Prop} {h0:Ag}
theorem Cp {fn : Func} {c : Code} {args : List AV} {os0 : List Nat} {K : Nat} {xs : List (Option AO)} (N : Nat) (hf : P.funcs[f]? = some fn) (hb : fn.body = some c) (hn : fn.name ≠ "runtime.NumGoroutine") (hnt : fn.ntmps = n) (hl : Nat.ble args.length n = true)
  (hI0 : Ids h0 os0 K) (hx : xs.length = K)
  (hr : ∀ ids, (∀ j, Nat.blt j K = true → ix ids j = ix os0 j) → Ids h0 ids (K + N) → WR P f n false (Aa8 S h0) m [.code c] (A0 (Vx 0 args)) [] (hp h0 ids (xs ++ List.replicate N none)) .ret) :
  m ≠ .bad → Bw P f args (hp h0 os0 xs) (Ec S h0 m) := by
 intro hb'
 refine Qo hf hb hn hnt (by simpa using hl) ?_
 refine Y9 N os0 fun os h1 h2 h3 h4 => ?_
 have hout : ∀ o ∈ os, o ∉ os0 := fun o ho => h4 o ho
 have hI : Ids h0 (os0 ++ os) (K + N) := by
  refine ⟨List.nodup_append.2 ⟨hI0.nodup, h2, fun a ha b hb hq => hout b hb (hq ▸ ha)⟩, fun o ho => ?_, by simp [hI0.len, h1]⟩
  rcases List.mem_append.1 ho with ho | ho
  ·exact hI0.fresh o ho
  ·have := h3 o ho
   rwa [Rh (hout o ho)] at this
 have e : hp h0 (os0 ++ os) (xs ++ List.replicate N none) = hp h0 os0 xs := by
  rw [Sw (by rw [hI0.len, hx]), Q1 fun o ho => hI.fresh o (List.mem_append_right _ ho)]
 have := hr (os0 ++ os) (fun j hj => by
  have hj' : j < os0.length := by rw [hI0.len]; simpa using hj
  simp [ix, List.getD, List.getElem?_append_left hj']) hI hb'
 rw [e] at this
 refine Ql (fun t => ?_) this
 rcases Qz args 0 t with h | ⟨_, h⟩
 ·exact .inl h
 ·exact .inr h
section
variable {ids:List Nat} {xs:List (Option AO)} {K N:Nat} {l:List (Nat×AV)} {k:List Item} {u:AU}
theorem Acz (hI:Ids h0 ids (K+N)){ys:List (Option AO)}(hy:ys.length=K):hp h0 ids (ys++List.replicate N none)=hp h0 (tkf ids K 0) ys:=by
 have e:=Ae2 ids K 0 (by rw [hI.len]; omega)
 rw [List.drop_zero] at e
 rw [← e]
 have e2:ids=ids.take K++ids.drop K:=(List.take_append_drop K ids).symm
 conv=>lhs; rw [e2]
 rw [Sw (by rw [List.length_take,hI.len,hy]; omega),Q1 fun o ho=>hI.fresh o (List.mem_of_mem_drop ho)]
theorem D0 {fn:Func}{a:α}{vs:List AV}{v:AV}(ys:List (Option AO))(hf:P.funcs[f]? = some fn)(hI:Ids h0 ids (K+N))(hl:xs.length=K+N)(hr:Hn P (hp h0 ids xs) (A0 l) fn.results.toList=some vs)
  (hy:ys.length=K) (hx:HL (hp h0 ids xs) (hp h0 ids (ys++List.replicate N none)) xs (ys++List.replicate N none)) (hz:Fz (hp h0 ids xs) (hp h0 ids (ys++List.replicate N none)) (Jr vs) v) (hS:S a v (hp h0 (tkf ids K 0) ys)) :
  WR P f n false (Aa8 S h0) (.ok a) (.code .ret::k) (A0 l) [] (hp h0 ids xs) u:=fun _=>by
 refine T1 (Aaf hf hr (hx.hfz hI hl) hz rfl ⟨v,rfl,?_⟩)
 rw [Acz hI hy]; exact hS
theorem Fm {fn:Func}{a:α}{vs:List AV}{v:AV}(ys:List (Option AO))(hf:P.funcs[f]? = some fn)(hI:Ids h0 ids (K+N))(hl:xs.length=K+N)(hr:Hn P (hp h0 ids xs) (A0 l) fn.results.toList=some vs)
  (hy:ys.length=K) (hx:HL (hp h0 ids xs) (hp h0 ids (ys++List.replicate N none)) xs (ys++List.replicate N none)) (hz:Fz (hp h0 ids xs) (hp h0 ids (ys++List.replicate N none)) (Jr vs) v) (hS:S a v (hp h0 (tkf ids K 0) ys)) :
  WR P f n false (Aa8 S h0) (.ok a) [] (A0 l) [] (hp h0 ids xs) u:=fun _=>by
 refine Zd (Aaf hf hr (hx.hfz hI hl) hz rfl ⟨v,rfl,?_⟩)
 rw [Acz hI hy]; exact hS
theorem B8 {fn:Func}{v:PV}{fr:Nat→AV}(hf:P.funcs[f]? = some fn)(hI:Ids h0 ids (K+N)):WU P f n false (Aa8 S h0) (.pan v) (.pan v.av false) fr [] (hp h0 ids xs) u:=fun _=>
 Afk hf (hI.sub xs) (.same _) ⟨rfl,rfl⟩
end
end
section
variable {P:Program} [GW P] {f:FuncId} {n:Nat} {d:FK} {β γ:Type} {Q:Spec β} {m:R β} {ds:List AD} {u:AU} {k:List Item} {l:List (Nat×AV)} {F:γ→R β}
variable {all r:List Oper} {ty:TypeId} {pos:String} {after:Array Edge} {h0:Ag} {ids:List Nat} {xs:List (Option AO)} {N:Nat}
theorem Amt {ops:List Oper}{fr:Nat→AV}(js:List Nat){xs zs:List (Option AO)}(ys:List (Option AO))(hI:Ids h0 ids N)(hl:xs.length=N)(hk:Qt N js=true)(hz:js.length=zs.length)(e:Rg js zs xs=ys)(hr:WO P f n d Q k all m ops fr ds (hp h0 ids ys) u) :
  WO P f n d Q k all m ops fr ds (hp (hp h0 ids (Rz js xs)) (Wc ids js) zs) u:=by
 subst e
 rw [Yw hI hl hz hk]; exact hr
theorem Cg {α:Type}{dst:Option Tmp}{x:Operand}{as0:List Operand}{ts:Array TypeId}{g:FuncId}{fst cap A:List AV}{gd:Option (Nat×Bool)}{mg:R α}{S:α→AV→Ag→Prop}{rest:α→R γ}{zs:List (Option AO)}(js:List Nat)(hI:Ids h0 ids N)(hl:xs.length=N)(hk:Qt N js=true)
  (hc:mg≠.bad→Bw P g A (hp (hp h0 ids (Rz js xs)) (Wc ids js) zs) (Ec S (hp h0 ids (Rz js xs)) mg)) (hz:js.length=zs.length) (e2:Rg js zs xs=xs)
  (ht:F1 n dst=true) (hw:Fl all (A0 l) ⟨dst,.call ⟨.value x,⟨as0⟩,ts⟩,ty,pos,after,gd⟩=some true) (hx:ev (A0 l) x=.func (.func g) fst cap) (ha:fst++G6 (A0 l) as0++cap=A)
  (hp' : ∀ v,mg=.pan v→WU P f n d Q (.pan v) (.pan v.av false) (A0 l) ds (hp h0 ids (Rz js xs)) u)
  (hk : ∀ a,mg=.ok a → ∀ v h',S a v h'→WO P f n d Q k all ((rest a).bind F) r (G1 (A0 l) dst v) ds h' u) :
  WO P f n d Q k all ((mg.bind rest).bind F) (⟨dst,.call ⟨.value x,⟨as0⟩,ts⟩,ty,pos,after,gd⟩::r) (A0 l) ds (hp h0 ids xs) u:=by
 rw [Yw hI hl hz ‹Qt N js=true›,e2] at hc
 refine Abq (R.bind_assoc _ _ _) (Ng ht hw fun hb K U hK hU=>?_)
 simp only [Ib,hx]
 rw [ha]
 have hmb:mg≠.bad:=fun q=>by rw [q] at hb; exact Q.bad hb
 refine(hc hmb).mono fun r' h' hr=>?_
 cases hm:mg with
 | bad=>exact absurd hm hmb
 | ok a=>
  rw [hm] at hr hb hK
  obtain⟨v,rfl,hS⟩:=hr
  exact hK _ _ _ _ (hk a hm v h' hS)
 | pan v=>
  rw [hm] at hr hb hU
  obtain⟨rfl,rfl⟩:=hr
  exact hU _ _ _ _ _ (hp' v hm hb)
theorem Cw {ops:List Oper}{t:Nat}{v:AV}{h:Ag}(hr:WO P f n d Q k all m ops (A0 ((t,v)::l)) ds h u):WO P f n d Q k all m ops (G1 (A0 l) (some t) v) ds h u:=by rw [Ey]; exact hr
theorem Fc {α:Type}{pre:List (List Nat)}{plan:Gs}{pend:O2}{i:Nat}{dst:Option Tmp}{x:Operand}{as0:List Operand}{ts:Array TypeId}{g:FuncId}{fst cap A:List AV}{gd:Option (Nat×Bool)}{mg:R α}{S:α→AV→Ag→Prop}{rest:α→R γ}{zs:List (Option AO)}(js:List Nat)(hI:Ids h0 ids N)(hl:xs.length=N)(hk:Qt N js=true)
  (hc:mg≠.bad→Bw P g A (hp (hp h0 ids (Rz js xs)) (Wc ids js) zs) (Ec S (hp h0 ids (Rz js xs)) mg)) (hz:js.length=zs.length) (e2:Rg js zs xs=xs) (ho:all[i]? = some ⟨dst,.call ⟨.value x,⟨as0⟩,ts⟩,ty,pos,after,gd⟩)
  (ht:F1 n dst=true) (hw:Fl all (A0 l) ⟨dst,.call ⟨.value x,⟨as0⟩,ts⟩,ty,pos,after,gd⟩=some true) (hx:ev (A0 l) x=.func (.func g) fst cap) (ha:fst++G6 (A0 l) as0++cap=A)
  (hp' : ∀ v,mg=.pan v → ∀ fr,(∀ t,(all.any fun o=>o.dst==some t)=false→fr t=A0 l t)→WU P f n d Q (.pan v) (.pan v.av false) fr ds (hp h0 ids (Rz js xs)) u)
  (hk : ∀ a,mg=.ok a → ∀ v h',S a v h'→G8 P all pre i h' pend∧WP P f n d Q k all pre ((rest a).bind F) plan pend (G1 (A0 l) dst v) ds h' u) :
  WP P f n d Q k all pre ((mg.bind rest).bind F) ((true,i)::plan) pend (A0 l) ds (hp h0 ids xs) u:=by
 rw [Yw hI hl hz ‹Qt N js=true›,e2] at hc
 refine Aba (R.bind_assoc _ _ _) (Wj ho ht hw fun hb K U hK hU=>?_)
 simp only [Ib,hx]
 rw [ha]
 have hmb:mg≠.bad:=fun q=>by rw [q] at hb; exact Q.bad hb
 refine(hc hmb).mono fun r' h' hr=>?_
 cases hm:mg with
 | bad=>exact absurd hm hmb
 | ok a=>
  rw [hm] at hr hb hK
  obtain⟨v,rfl,hS⟩:=hr
  obtain⟨k1,k2⟩:=hk a hm v h' hS
  exact hK _ _ _ _ k1 k2
 | pan v=>
  rw [hm] at hr hb hU
  obtain⟨rfl,rfl⟩:=hr
  exact hU _ _ _ _ _ (fun fr' hf=>hp' v hm fr' hf hb)
theorem Gr {pre:List (List Nat)}{plan:Gs}{pend:O2}{i:Nat}{fr:Nat→AV}(js:List Nat){xs zs:List (Option AO)}(ys:List (Option AO))(hI:Ids h0 ids N)(hl:xs.length=N)(hk:Qt N js=true)(hz:js.length=zs.length)(e:Rg js zs xs=ys)
  (hr:G8 P all pre i (hp h0 ids ys) pend∧WP P f n d Q k all pre m plan pend fr ds (hp h0 ids ys) u) :
  G8 P all pre i (hp (hp h0 ids (Rz js xs)) (Wc ids js) zs) pend∧WP P f n d Q k all pre m plan pend fr ds (hp (hp h0 ids (Rz js xs)) (Wc ids js) zs) u:=by
 subst e
 rw [Yw hI hl hz hk]; exact hr
theorem Gp {pre:List (List Nat)}{plan:Gs}{pend:O2}{t:Nat}{v:AV}{h:Ag}(hr:WP P f n d Q k all pre m plan pend (A0 ((t,v)::l)) ds h u):WP P f n d Q k all pre m plan pend (G1 (A0 l) (some t) v) ds h u:=by rw [Ey]; exact hr
end
end Go.Am
namespace Go.Am
open Go
set_option linter.unusedSimpArgs false
set_option linter.unusedVariables false
set_option linter.unusedSectionVars false
def X4 {α:Type}(l:List α)(a b:Int):List α:=(l.drop a.toNat).take (b.toNat - a.toNat)
section
variable {P:Program} [GW P] {h:Ag} {t et:TypeId} {a b st:Nat} {z:List AV} {E:TI} {s:List UInt8} {k k':IntKind} {lo hi:Int} {α:Type} {e:α→List AV} {L:List α}
theorem Ah1 {n:Nat}(h1:0≤lo)(h2:lo≤(n:Int))(d:Nat):Hm (some (.int k lo)) d n=some lo.toNat:=by simp only [Hm]; rw [if_pos ⟨h1,h2⟩]
theorem Aoa (hT:ti P t=some ⟨.sl et,a,b,z⟩)(hE:ti P et=some E)(hs:st=E.size)(hc:0≤lo∧lo≤hi∧hi≤(L.length:Int)):Ke P h t (.sl st (L.map e)) (some (.int k lo)) (some (.int k' hi)) none=some (.sl st ((X4 L lo hi).map e)):=by
 obtain⟨h1,h2,h3⟩:=hc
 simp only [Ke,hT,hE]
 rw [if_pos hs,Ah1 (by omega) (by simpa using h3)]
 simp only
 rw [Ah1 h1 (by omega)]
 simp only [X4,List.map_take,List.map_drop]
theorem Anz (hT:ti P t=some ⟨.sl et,a,b,z⟩)(hE:ti P et=some E)(hs:st=E.size)(hc:0≤lo∧lo≤(L.length:Int)):Ke P h t (.sl st (L.map e)) (some (.int k lo)) none none=some (.sl st ((L.drop lo.toNat).map e)):=by
 simp only [Ke,hT,hE,Hm]
 rw [if_pos hs]
 simp only [List.length_map]
 rw [if_pos hc]
 simp only [Option.some.injEq,AV.sl.injEq,true_and]
 rw [List.take_of_length_le (by simp),List.map_drop]
theorem An1 (hT:ti P t=some ⟨.sl et,a,b,z⟩)(hE:ti P et=some E)(hs:st=E.size)(hc:0≤hi∧hi≤(L.length:Int)):Ke P h t (.sl st (L.map e)) none (some (.int k hi)) none=some (.sl st ((L.take hi.toNat).map e)):=by
 simp only [Ke,hT,hE]
 rw [if_pos hs,Ah1 hc.1 (by simpa using hc.2)]
 simp only [Hm,List.drop_zero,Nat.sub_zero,List.map_take]
theorem Gn {m o g r c:Nat}{i:Int}(j:Nat)(hT:ti P t=some ⟨.arr m et,a,b,z⟩)(hE:ti P et=some E)(hi:i=(j:Int))(hj:Nat.blt j m=true):Gi P h t (.ptr o g r c) (.int k i)=some (.ptr o g r (c+j * E.size)):=by
 subst hi
 have:j<m:=by simpa using hj
 simp only [Gi,hT,hE]
 rw [if_pos ⟨by omega,by omega⟩,Int.toNat_natCast]
end
section
variable {P:Program} [GW P] {f:FuncId} {n:Nat} {d:FK} {β γ:Type} {Q:Spec β} {fr:Nat→AV} {ds:List AD} {h:Ag} {u:AU} {k:List Item} {F:γ→R β} {all:List Oper}
theorem I6 {pre:List (List Nat)}{plan:Gs}{pend:O2}{p:Prop}[Decidable p]{A B:R γ}(ht:p→WP P f n d Q k all pre (A.bind F) plan pend fr ds h u)(hf:¬ p→WP P f n d Q k all pre (B.bind F) plan pend fr ds h u):WP P f n d Q k all pre ((if p then A else B).bind F) plan pend fr ds h u:=by
 intro hb
 by_cases hp:p
 ·simp only [if_pos hp] at hb ⊢; exact ht hp hb
 ·simp only [if_neg hp] at hb ⊢; exact hf hp hb
theorem Sq {pre:List (List Nat)}{plan:Gs}{pend:O2}:WP P f n d Q k all pre ((R.bad:R γ).bind F) plan pend fr ds h u:=fun hb=>absurd hb Q.bad
end
def Be (l:List Int):Vj:=l.map fun n=>UInt8.ofNat n.toNat
def Cx (s:Vj):List Int:=s.map fun b=>(b.toNat:Int)
theorem Z2 : ∀ l:List Int,Ox (l.map (rI .u8))=some (Be l)
 | []=>rfl
 | n::l=>by
  have:=Z2 l
  simp only [List.map_cons,rI,Ox] at this ⊢
  rw [this]
  rfl
section
variable {P:Program} [GW P] {h:Ag} {s t e:TypeId} {a b c d st:Nat} {z1 z2:List AV} {E:TI} {L:List Int}
theorem Jj (hS:ti P s=some ⟨.sl e,a,b,z1⟩)(hT:ti P t=some ⟨.str,c,d,z2⟩)(hE:ti P e=some E)(hk:E.k=.int .u8):Rm P h s t (.sl 1 (L.map (rI .u8)))=some (.str (Be L)):=by
 simp only [Rm,hS,hT,hE]
 rw [if_pos ⟨hk,trivial⟩,Z2]; rfl
theorem Akl {P:Program}[GW P]{fr:Nat→AV}{x:Operand}{K:AV→Ag→Prop}{S:Vj}{E:TI}(hS:ti P s=some ⟨.str,a,b,z1⟩)(hT:ti P t=some ⟨.sl e,c,d,z2⟩)(hE:ti P e=some E)(hk:E.k=.int .u8)(hx:ev fr x=.str S)(hl:S.length≤C2)(hK:K (.sl 1 ((Cx S).map (rI .u8))) h):F5 P fr h (.convert s t x) K:=by
 simp only [F5,Wq,hS,hT,hE,hx]
 refine⟨hk,hl,?_⟩
 have:(Cx S).map (rI .u8)=S.map fun b=>[AV.int .u8 b.toNat]:=by simp [Cx,rI,Function.comp_def]
 rw [this] at hK; exact hK
end
section
variable {P:Program} [GW P] [GW P]
theorem Sh.mk {g : FuncId} {gf : Func} {gc : Code} (h1 : P.funcs[g]? = some gf) (h2 : gf.body = some gc) (h3 : gf.name ≠ "runtime.NumGoroutine") : Sh P g := ⟨gf, gc, h1, h2, h3⟩
theorem Am5 {h:Ag}{mu:Mu}{w:World}{a:AV}{cargs:Array Value}(k:N5 h mu w [a] cargs.toList) : ∃ c,cargs = #[c]∧RV h mu w a c:=by
 obtain⟨l⟩:=cargs
 match l,k.1 with
 | [c],_=>exact⟨c,rfl,by simpa using k.2 0 (by simp)⟩
theorem Ani {h:Ag}{mu:Mu}{w:World}{t:IntKind}{n:Int}{c:Value}(k:RV h mu w (.int t n) c):c=.int t n:=by cases k; rfl
end
end Go.Am
namespace Go.Am
open Go
set_option linter.unusedSimpArgs false
set_option linter.unusedVariables false
set_option linter.unusedSectionVars false
inductive HM (h h2:Ag):List (Option AO)→List (Option AO)→Prop
 | nil:HM h h2 [] []
 | keep {x:Option AO} {xs ys:List (Option AO)} (r:HM h h2 xs ys):HM h h2 (x::xs) (x::ys)
 | drop {x:Option AO} {xs ys:List (Option AO)} (r:HM h h2 xs ys):HM h h2 (x::xs) (none::ys)
 | own {α:Type} {e:α→List AV} {L:List α} {v:AV} {g st i:Nat} {y:α} {row:List AV} {xs ys:List (Option AO)} (hr : ∀ x,Es st (e x)) (hz:LF h h2 row (e y)) (r:HM h h2 xs ys) :
   HM h h2 (Ba v g st ((L.map e).set i row)::xs) (Ba v g st ((L.set i y).map e)::ys)
theorem HM.get {h h2:Ag}{xs ys:List (Option AO)}(k:HM h h2 xs ys):xs.length=ys.length ∧ ∀ (j:Nat) (y:AO),ys[j]? = some (some y) → ∃ x,xs[j]? = some (some x)∧AFz h h2 x y:=by
 induction k with
 | nil=>exact⟨rfl,fun j y e=>by simp at e⟩
 | keep r ih=>
  refine⟨by simp [ih.1],fun j y e=>?_⟩
  cases j with
  | zero=>simp only [List.getElem?_cons_zero,Option.some.injEq] at e; subst e; exact⟨y,by simp,.same _⟩
  | succ j=>simpa using ih.2 j y (by simpa using e)
 | drop r ih=>
  refine⟨by simp [ih.1],fun j y e=>?_⟩
  cases j with
  | zero=>simp at e
  | succ j=>simpa using ih.2 j y (by simpa using e)
 | @own α e L v g st i y row xs ys hr hz r ih=>
  refine⟨by simp [ih.1],fun j z hz'=>?_⟩
  cases j with
  | succ j=>simpa using ih.2 j z (by simpa using hz')
  | zero=>
   simp only [List.getElem?_cons_zero,Option.some.injEq] at hz' ⊢
   have key:AFz h h2 (.rows g st ((L.map e).set i row)) (.rows g st ((L.set i y).map e)):=by
    refine .rows g st _ _ (by simp) (fun q hq=>?_) fun a b ha hb=>?_
    ·obtain⟨w,_,rfl⟩:=List.mem_map.1 hq
     exact hr w
    ·rw [List.map_set]
     by_cases hia:i=a
     ·subst hia
      have hlt:i<(L.map e).length:=by simpa using ha
      simp only [cell]
      have e1:((L.map e).set i row).getD i []=row:=by rw [List.getD_eq_getElem?_getD,List.getElem?_set_self hlt]; rfl
      have e2:((L.map e).set i (e y)).getD i []=e y:=by rw [List.getD_eq_getElem?_getD,List.getElem?_set_self hlt]; rfl
      rw [e1,e2]
      exact hz.all.2 b (by rw [hz.all.1,(hr y).1]; exact hb)
     ·simp only [cell]
      have e1:((L.map e).set i row).getD a []=(L.map e).getD a []:=by simp [List.getD,List.getElem?_set_ne hia]
      have e2:((L.map e).set i (e y)).getD a []=(L.map e).getD a []:=by simp [List.getD,List.getElem?_set_ne hia]
      rw [e1,e2]
      exact .same _
   unfold Ba at hz' ⊢
   split at hz'
   ·cases hz'
   ·rename_i hv
    cases hz'
    exact⟨_,rfl,key⟩
theorem HM.hfz {h0:Ag}{ids:List Nat}{N:Nat}{xs ys:List (Option AO)}(hI:Ids h0 ids N)(hl:xs.length=N)(k:HM (hp h0 ids xs) (hp h0 ids ys) xs ys):HFz (hp h0 ids xs) (hp h0 ids ys):=by
 intro o y e
 obtain⟨k1,k2⟩:=k.get
 by_cases ho:o ∈ ids
 ·obtain⟨j,hj,rfl⟩:=List.mem_iff_getElem.1 ho
  have ej:ids[j]=ix ids j:=by simp [ix,List.getD,hj]
  rw [ej] at e ⊢
  have hjl:j<ys.length:=by rw [← k1,hl,← hI.len]; exact hj
  have hy:=hI.at (xs:=ys) (j:=j) (x:=ys[j]) (by rw [← k1,hl]) (List.getElem?_eq_getElem hjl)
  rw [hy] at e
  obtain⟨x,hx,hz⟩:=k2 j y (by rw [List.getElem?_eq_getElem hjl,e])
  exact⟨x,hI.at hl hx,hz⟩
 ·rw [Rh ho] at e
  exact⟨y,by rw [Rh ho]; exact e,.same _⟩
end Go.Am
namespace Go.Am
open Go
set_option linter.unusedSimpArgs false
set_option linter.unusedVariables false
set_option linter.unusedSectionVars false
def rV {α:Type}{n:Nat}(e:α→List AV)(v:Vector α n):List AV:=v.toList.flatMap e
def Yq {α:Type}{n:Nat}(v:Vector α n)(i:Nat)(z:α):α:=v.toList.getD i z
def Ala {α:Type}(n:Nat)(x:α):Vector α n:=Vector.replicate n x
section
variable {α:Type} {n:Nat} {e:α→List AV} {E:α→AV} {v:Vector α n} {i:Nat}
theorem Aab {s:Nat}(he : ∀ x,(e x).length=s) : ∀ l:List α,(l.flatMap e).length=l.length * s
 | []=>by simp
 | a::l=>by simp [he a,Aab he l,Nat.add_mul,Nat.add_comm]
theorem Ant {s m:Nat}(he : ∀ x,Es s (e x))(hm:n * s=m)(v:Vector α n):Es m (rV e v):=by
 refine⟨by rw [rV,Aab fun x=>(he x).1]; simpa using hm,fun a ha=>?_⟩
 obtain⟨x,_,hx⟩:=List.mem_flatMap.1 ha
 exact(he x).2 a hx
theorem Es.all {s:Nat}{r:List AV}(h:Es s r):r.all AV.flat=true:=List.all_eq_true.2 h.2
theorem Ako (he : ∀ x,e x=[E x]):rV e v=v.toList.map E:=by
 rw [rV]
 induction v.toList with
 | nil=>rfl
 | cons a l ih=>simp [he,ih]
theorem Anu (he : ∀ x,e x=[E x])(x:α):rV e (Ala n x)=List.replicate n (E x):=by rw [Ako he]; simp [Ala]
theorem Aos (he : ∀ x,e x=[E x])(hi:i<n)(z:α):L9 (rV e v) i 1 false=some (E (Yq v i z)):=by
 have hl:i<v.toList.length:=by simpa using hi
 rw [Ako he]
 simp only [L9,Bool.false_eq_true,if_false,List.length_map,hl,if_true,Yq]
 congr 1
 simp [List.getD,List.getElem?_eq_getElem hl]
end
section
variable {P:Program} [GW P] {h:Ag} {t et:TypeId} {a b:Nat} {z:List AV} {E:TI} {k:IntKind}
theorem Aiv {m o g:Nat}{i:Int}(hT:ti P t=some ⟨.arr m et,a,b,z⟩)(hE:ti P et=some E)(h1:E.size=1)(hi:0≤i∧i<(m:Int)):Gi P h t (.ptr o g 0 0) (.int k i)=some (.ptr o g 0 i.toNat):=by
 simp only [Gi,hT,hE,h1]
 rw [if_pos ⟨hi.1,by omega⟩]
 simp
theorem toNat_lt {i:Int}{m:Nat}(h:0≤i∧i<(m:Int)):i.toNat<m:=by omega
end
section
variable {P:Program} [GW P] {f:FuncId} {n:Nat} {d:FK} {β:Type} {Q:Spec β} {m:R β} {ds:List AD} {u:AU} {k:List Item} {l:List (Nat×AV)} {all r:List Oper} {ty:TypeId} {pos:String} {after:Array Edge} {h0:Ag} {ids:List Nat} {xs:List (Option AO)} {N:Nat}
theorem Akd {t:Nat}{e:TypeId}{T:TI}{j st:Nat}{row:List AV}(hI:Ids h0 ids N)(hl:xs.length=N)(hjn:Nat.blt j N=true)(hj:xs[j]? = some none)(ht:Nat.blt t n=true)(hT:ti P e=some T)(hz:T.z=row)(hr:Es st row)
  (hk : ∀ g,WO P f n d Q k all m r (A0 ((t,.ptr (ix ids j) g 0 0)::l)) ds (hp h0 ids (xs.set j (some (.rows g st [row])))) u) :
  WO P f n d Q k all m (⟨some t,.alloc e,ty,pos,after,none⟩::r) (A0 l) ds (hp h0 ids xs) u:=by
 subst hz
 refine Ch hI hl hjn hj ht hT hr.all fun g=>?_
 rw [hr.1]; exact hk g
end
theorem I2 {h h2:Ag} : ∀ l:List AV,LF h h2 l l
 | []=>.nil
 | a::l=>.cons (.same a) (I2 l)
def R.np {α:Type}:R α→R α
 | .pan _=>.bad
 | m=>m
theorem R.np_ne {α:Type}(m:R α)(v:PV):m.np≠.pan v:=by cases m <;> simp [R.np]
@[simp] theorem R.np_ok {α:Type}(a:α):(R.ok a).np=.ok a:=rfl
end Go.Am
namespace Go.Am
open Go
set_option linter.unusedSimpArgs false
set_option linter.unusedVariables false
set_option linter.unusedSectionVars false
section
variable {P:Program} [GW P] {B:Base P} {mu:Mu} {h:Ag} {w:World}
theorem Sim.pushB (s:Sim B mu h w){o g:Nat}(x:Obj)(ho:h o=none)(hg:mu o g=none) :
  Sim B (Dy mu o g ⟨w.heap.size,0,0,0,false⟩) (upd h o (some (.blk g x))) (w.alloc x)∧Et h mu w (upd h o (some (.blk g x))) (Dy mu o g ⟨w.heap.size,0,0,0,false⟩) (w.alloc x):=by
 have hmu : ∀ o' g' l,mu o' g'=some l→Dy mu o g ⟨w.heap.size,0,0,0,false⟩ o' g'=some l:=by
  intro o' g' l hl
  unfold Dy
  rw [if_neg]
  ·exact hl
  ·rintro⟨rfl,rfl⟩; rw [hg] at hl; cases hl
 have hinv : ∀ o' g' l,Dy mu o g ⟨w.heap.size,0,0,0,false⟩ o' g'=some l→(o'=o∧g'=g∧l=⟨w.heap.size,0,0,0,false⟩)∨mu o' g'=some l:=by
  intro o' g' l hl
  unfold Dy at hl
  split at hl
  ·rename_i hh; cases hl; exact .inl ⟨hh.1,hh.2,rfl⟩
  ·exact .inr hl
 have hlive : ∀ o' y,upd h o (some (.blk g x)) o'=some y→(o'=o∧y=.blk g x)∨(o'≠o∧h o'=some y):=by
  intro o' y hx
  unfold upd at hx
  split at hx
  ·cases hx; exact .inl ⟨‹_›,rfl⟩
  ·exact .inr ⟨‹_›,hx⟩
 have hlt : ∀ {o' g' l},mu o' g'=some l→l.b<w.heap.size:=fun hl=>(s.muOk _ _ _ hl).2.1
 have hM : ∀ b,b<w.heap.size→¬ Do h mu b→¬ Do (upd h o (some (.blk g x))) (Dy mu o g ⟨w.heap.size,0,0,0,false⟩) b:=by
  rintro b hb hn ⟨o',y,l,hx,hl,rfl⟩
  rcases hinv _ _ _ hl with⟨_,_,rfl⟩ | hl'
  ·simp at hb
  ·rcases hlive _ _ hx with⟨rfl,rfl⟩ | ⟨_,hx'⟩
   ·simp only [AO.gen] at hl'; rw [hg] at hl'; cases hl'
   ·exact hn ⟨o',y,l,hx',hl',rfl⟩
 have ext:Et h mu w (upd h o (some (.blk g x))) (Dy mu o g ⟨w.heap.size,0,0,0,false⟩) (w.alloc x):=
  ⟨rfl,rfl,rfl,by rw [E2]; omega,fun b hb hn=>⟨Du hb,hM b hb hn⟩,hmu⟩
 refine⟨⟨?_,?_,?_,?_,?_,?_,?_,s.globE ext,?_⟩,ext⟩
 ·rw [E2]; exact Nat.le_succ_of_le s.base
 ·intro o' g' l hl
  rcases hinv _ _ _ hl with⟨_,_,rfl⟩ | hl'
  ·exact⟨s.base,by rw [E2]; simp,fun hh=>by simp at hh⟩
  ·obtain⟨h1,h2,h3⟩:=s.muOk _ _ _ hl'
   refine⟨h1,by rw [E2]; omega,fun hcc=>?_⟩
   rw [Du h2]; exact h3 hcc
 ·obtain⟨N,hN⟩:=s.fin
  refine⟨max N (g+1),fun o' g' hle=>?_⟩
  unfold Dy
  rw [if_neg (by omega)]
  exact hN _ _ (by omega)
 ·obtain⟨N,hN⟩:=s.finh
  refine⟨max N (o+1),fun o' hle=>?_⟩
  unfold upd
  rw [if_neg (by omega)]
  exact hN _ (by omega)
 ·intro o' g' st' rs' hx
  rcases hlive _ _ hx with⟨rfl,hx'⟩ | ⟨hne,hx'⟩
  ·cases hx'
  ·obtain⟨l,h1,h2,h3,h4,h5,h6⟩:=s.rows _ _ _ _ hx'
   refine⟨l,hmu _ _ _ h1,h2,h3,h4,h5,fun i j hi hj=>?_⟩
   obtain⟨c,hc1,hc2⟩:=h6 i j hi hj
   refine⟨c,?_,hc2.ext ext⟩
   rw [cell?_of_heap (w:=w) (a:=⟨l.b,l.base+i * st'+j,none⟩) (Du (hlt h1))]; exact hc1
 ·intro o' g' es hx
  rcases hlive _ _ hx with⟨rfl,hx'⟩ | ⟨hne,hx'⟩
  ·cases hx'
  ·obtain⟨l,h1,h2,ens,clock,h3,h4,h5⟩:=s.maps _ _ _ hx'
   exact⟨l,hmu _ _ _ h1,h2,ens,clock,by rw [Du (hlt h1)]; exact h3,h4,fun i hi=>⟨(h5 i hi).1.ext ext,(h5 i hi).2.ext ext⟩⟩
 ·intro o1 o2 x1 x2 l1 l2 hx1 hx2 hl1 hl2 hbb
  have side : ∀ {o1 x1 l1},upd h o (some (.blk g x)) o1=some x1→Dy mu o g ⟨w.heap.size,0,0,0,false⟩ o1 x1.gen=some l1→(o1=o∧l1.b=w.heap.size)∨(o1≠o∧h o1=some x1∧mu o1 x1.gen=some l1):=by
   intro o1 x1 l1 h1 q1
   rcases hlive _ _ h1 with⟨rfl,rfl⟩ | ⟨hne,h1'⟩
   ·rcases hinv _ _ _ q1 with⟨_,_,rfl⟩ | q1'
    ·exact .inl ⟨rfl,rfl⟩
    ·simp only [AO.gen] at q1'; rw [hg] at q1'; cases q1'
   ·rcases hinv _ _ _ q1 with⟨e1,_,_⟩ | q1'
    ·exact absurd e1 hne
    ·exact .inr ⟨hne,h1',q1'⟩
  rcases side hx1 hl1 with⟨e1,b1⟩ | ⟨n1,a1,c1⟩ <;> rcases side hx2 hl2 with⟨e2,b2⟩ | ⟨n2,a2,c2⟩
  ·rw [e1,e2]
  ·have:=hlt c2; omega
  ·have:=hlt c1; omega
  ·exact s.inj _ _ _ _ _ _ a1 a2 c1 c2 hbb
 ·intro o' g' y hx
  rcases hlive _ _ hx with⟨rfl,hx'⟩ | ⟨hne,hx'⟩
  ·cases hx'
   exact⟨⟨w.heap.size,0,0,0,false⟩,by simp [Dy],rfl,Lv⟩
  ·obtain⟨l,h1,h2,h3⟩:=s.blks _ _ _ hx'
   exact⟨l,hmu _ _ _ h1,h2,by rw [Du (hlt h1)]; exact h3⟩
theorem Sim.setB (s:Sim B mu h w){o g:Nat}{x x':Obj}{l:Loc}(hx:h o=some (.blk g x))(hl:mu o g=some l)(hnc : ∀ c e f,x≠.cells c e f) :
  Sim B mu (upd h o (some (.blk g x'))) { w with heap:=w.heap.setIfInBounds l.b x' }∧Et h mu w (upd h o (some (.blk g x'))) mu { w with heap:=w.heap.setIfInBounds l.b x' }:=by
 obtain⟨l0,hl0,hlc,hb0⟩:=s.blks _ _ _ hx
 rw [hl] at hl0; cases hl0
 have hlt0:=(s.muOk _ _ _ hl).2.1
 generalize hw:({ w with heap:=w.heap.setIfInBounds l.b x' }:World)=w'
 have hblk:w'.heap[l.b]? = some x':=by rw [← hw]; simp [hlt0]
 have hother : ∀ b,b≠l.b→w'.heap[b]? = w.heap[b]? := fun b hne=>by rw [← hw]; exact Array.getElem?_setIfInBounds_ne (Ne.symm hne)
 have hsize:w'.heap.size=w.heap.size:=by rw [← hw]; simp
 have hlive : ∀ o1 y,upd h o (some (.blk g x')) o1=some y→(o1=o∧y=.blk g x')∨(o1≠o∧h o1=some y):=by
  intro o1 y h1
  unfold upd at h1
  split at h1
  ·cases h1; exact .inl ⟨‹_›,rfl⟩
  ·exact .inr ⟨‹_›,h1⟩
 have hMl:Do h mu l.b:=⟨o,_,l,hx,hl,rfl⟩
 have hM : ∀ b,¬ Do h mu b→¬ Do (upd h o (some (.blk g x'))) mu b:=by
  rintro b hn ⟨o1,y,l1,h1,h2,rfl⟩
  rcases hlive _ _ h1 with⟨rfl,rfl⟩ | ⟨_,h1'⟩
  ·exact hn ⟨_,_,_,hx,h2,rfl⟩
  ·exact hn ⟨_,_,_,h1',h2,rfl⟩
 have ext:Et h mu w (upd h o (some (.blk g x'))) mu w':=
  ⟨by rw [← hw],by rw [← hw],by rw [← hw],by rw [hsize]; exact Nat.le_refl _,fun b _ hb=>⟨hother b (fun e=>hb (e ▸ hMl)),hM b hb⟩,fun _ _ _ h=>h⟩
 have hnb : ∀ {o1 y l1},o1≠o→h o1=some y→mu o1 y.gen=some l1→l1.b≠l.b:=fun hne h1 h2 hb=>hne (s.inj _ _ _ _ _ _ h1 hx h2 hl hb)
 refine⟨⟨by rw [hsize]; exact s.base,?_,s.fin,?_,?_,?_,?_,s.globE ext,?_⟩,ext⟩
 ·intro o1 g1 l1 h1
  obtain⟨k1,k2,k3⟩:=s.muOk _ _ _ h1
  refine⟨k1,by rw [hsize]; exact k2,fun hcc=>?_⟩
  have hbb:l1.b≠l.b:=by
   intro hbb
   obtain⟨c1,e1,f1,q1,_⟩:=k3 hcc
   rw [hbb,hb0] at q1
   exact hnc _ _ _ (Option.some.inj q1)
  rw [hother _ hbb]; exact k3 hcc
 ·obtain⟨N,hN⟩:=s.finh
  refine⟨max N (o+1),fun o' hle=>?_⟩
  unfold upd
  rw [if_neg (by omega)]
  exact hN _ (by omega)
 ·intro o1 g1 st1 rs1 h1
  rcases hlive _ _ h1 with⟨rfl,h1'⟩ | ⟨hne,h1'⟩
  ·cases h1'
  ·obtain⟨l1,k1,k2,k3,k4,k5,k6⟩:=s.rows _ _ _ _ h1'
   refine⟨l1,k1,k2,k3,k4,k5,fun i j hi hj=>?_⟩
   obtain⟨c,hc1,hc2⟩:=k6 i j hi hj
   refine⟨c,?_,hc2.ext ext⟩
   rw [cell?_of_heap (w:=w) (w':=w') (a:=⟨l1.b,l1.base+i * st1+j,none⟩) (hother _ (hnb hne h1' k1))]; exact hc1
 ·intro o1 g1 es1 h1
  rcases hlive _ _ h1 with⟨rfl,h1'⟩ | ⟨hne,h1'⟩
  ·cases h1'
  ·obtain⟨l1,k1,k2,ens1,clock1,k3,k4,k5⟩:=s.maps _ _ _ h1'
   exact⟨l1,k1,k2,ens1,clock1,by rw [hother _ (hnb hne h1' k1)]; exact k3,k4,fun i hi=>⟨(k5 i hi).1.ext ext,(k5 i hi).2.ext ext⟩⟩
 ·intro o1 o2 x1 x2 l1 l2 h1 h2 q1 q2 hbb
  rcases hlive _ _ h1 with⟨rfl,rfl⟩ | ⟨n1,a1⟩ <;> rcases hlive _ _ h2 with⟨rfl,rfl⟩ | ⟨n2,a2⟩
  ·rfl
  ·simp only [AO.gen] at q1; rw [hl] at q1; cases q1; exact absurd hbb.symm (hnb n2 a2 q2)
  ·simp only [AO.gen] at q2; rw [hl] at q2; cases q2; exact absurd hbb (hnb n1 a1 q1)
  ·exact s.inj _ _ _ _ _ _ a1 a2 q1 q2 hbb
 ·intro o1 g1 y h1
  rcases hlive _ _ h1 with⟨rfl,h1'⟩ | ⟨hne,h1'⟩
  ·cases h1'
   exact⟨l,hl,hlc,hblk⟩
  ·obtain⟨l1,k1,k2,k3⟩:=s.blks _ _ _ h1'
   exact⟨l1,k1,k2,by rw [hother _ (hnb hne h1' k1)]; exact k3⟩
end
end Go.Am
namespace Go.Am
open Go
set_option linter.unusedSimpArgs false
set_option linter.unusedVariables false
set_option linter.unusedSectionVars false
section
variable {P:Program} [GW P] {f:FuncId} {n:Nat} {d:FK} {fr:Nat→AV} {ds:List AD} {h:Ag} {u:AU} {Q:QT} {k:List Item}
theorem Acn {l o g:Nat}{r:Loop}(hd:d.ro=some (l,o,g))(ho:h o=some (.blk g (.loop r)))(hs:r.state=.ready)(hr:E5 P f n d k fr ds (upd h o (some (.blk g (.loop { r with state:=.busy })))) u Q) :
  E5 P f n d (.beginRound::k) fr ds h u Q:=by
 intro B mu w a cs p
 obtain⟨loc,hl,rfl⟩:=p.rnd _ _ _ hd
 obtain⟨l0,hl0,_,hb⟩:=p.sim.blks _ _ _ ho
 rw [hl] at hl0; cases hl0
 have hrun:(Instr.beginRound loc.b).run P w=.ok () { w with heap:=w.heap.setIfInBounds loc.b (.loop { r with state:=.busy }) }:=by
  simp [Instr.beginRound,Instr.getLoop,getObj,setObj,Sem.run,Sem.run_bind,hb,hs]
 obtain⟨s',e'⟩:=p.sim.setB (x':=.loop { r with state:=.busy }) ho hl (fun _ _ _ hh=>by cases hh)
 exact .ext e' (.head (stepR_beginRound (by simp [b0,hd]) hrun) (hr B mu _ a cs (p.ext e' s')))
def Tk (fr:Nat→AV):List Nat→List AV→Nat→AV
 | p::ps,v::vs=>Tk (upd fr p v) ps vs
 | _,_=>fr
theorem Afz {mu:Mu}{w:World} : ∀ (ps:List Nat) (args:List AV) (cargs:List Value) (fr:Nat→AV) (tmps:Array Value),tmps.size=n→(∀ p ∈ ps,p<n)→(∀ t,RV h mu w (fr t) (tmps.getD t undef))→N5 h mu w args cargs →
  (∀ t,RV h mu w (Tk fr ps args t) (((ps.zip cargs).foldl (fun tmps x=>tmps.setIfInBounds x.1 x.2) tmps).getD t undef))∧((ps.zip cargs).foldl (fun tmps x=>tmps.setIfInBounds x.1 x.2) tmps).size=n
 | [],_,_,fr,tmps,hs,_,hf,_=>⟨by simpa [Tk] using hf,by simpa using hs⟩
 | p::ps,[],[],fr,tmps,hs,_,hf,_=>⟨by simpa [Tk] using hf,by simpa using hs⟩
 | p::ps,[],c::cs,fr,tmps,hs,_,hf,ha=>by have:=ha.1; simp at this
 | p::ps,v::vs,[],fr,tmps,hs,_,hf,ha=>by have:=ha.1; simp at this
 | p::ps,v::vs,c::cs,fr,tmps,hs,hp,hf,ha=>by
  have hv:RV h mu w v c:=by simpa using ha.2 0 (by simp)
  have hp0:=hp p (List.mem_cons_self ..)
  refine Afz ps vs cs (upd fr p v) (tmps.setIfInBounds p c) (by simpa using hs) (fun q hq=>hp q (List.mem_cons_of_mem _ hq)) (fun t=>?_) ⟨by have:=ha.1; simpa using this,fun i hi=>by simpa using ha.2 (i+1) (by simpa using hi)⟩
  unfold upd
  by_cases ht:t=p
  ·subst ht
   rw [if_pos rfl]
   simp [hs,hp0]; exact hv
  ·rw [if_neg ht]
   have:=hf t
   simpa [Array.getD_eq_getD_getElem?,Array.getElem?_setIfInBounds_ne (Ne.symm ht)] using this
theorem Ang {mu:Mu}{w:World}{M:Nat→Prop}{c:Code}{v:Value}(hc:jav c≠.tup [])(h:Rv w mu M (jav c) v):v=jv c:=by
 cases c with
 | ret=>have h:Rv w mu M (.bool true) v:=h; cases h; rfl
 | exit id=>have h:Rv w mu M (.int .u64 id) v:=h; cases h; rfl
 | _=>exact absurd rfl hc
theorem An9 {c:Code}{k:List Item}(hj:Su c k=true):jv c≠undef:=by
 cases c <;> simp [Su] at hj <;> simp [jv,undef]
theorem Anv {c c':Code}{k:List Item}(hj:Su c k=true)(hc:jav c'≠.tup [])(h:jv c'=jv c):c=c':=by
 cases c with
 | ret=>
  cases c' with
  | ret=>rfl
  | exit id=>simp [jv] at h
  | _=>exact absurd rfl hc
 | exit id=>
  cases c' with
  | ret=>simp [jv] at h
  | exit id'=>
   have h:(id':Int)=(id:Int):=by simpa [jv] using h
   rw [Int.ofNat.inj h]
  | _=>exact absurd rfl hc
 | _=>simp [Su] at hj
theorem Zy {y:YF}{o g:Nat}{r:Loop}{args:List AV}{K E:AV→Ag→Prop}(ho:h o=some (.blk g (.loop r)))(hrd:r.state=.ready)(hpe:r.pending=none)(hfn:r.fn=f)(hsz:r.tmps.size=n)(hps : ∀ p ∈ r.params.toList,p<n)
  (hy : ∀ {mu:Mu} {w:World} {l:Nat},y.F w mu (Do h mu) l → ∀ t,RV h mu w (fr t) (r.tmps.getD t undef)) (hla:args.length=r.params.size)
  (hrun : ∀ l,E5 P f n ⟨false,some (l,o,g)⟩ [.code r.assign,.beginRound,.code r.body] (Tk fr r.params.toList args) [] h .ret (fun res h' _=>match res with
   | .ret v=>h' o=some (.blk g (.loop { r with state:=.busy }))∧((v=.tup []∧K (.bool true) (upd h' o (some (.blk g (.loop r))))) ∨ ∃ c,v=jav c∧jav c≠.tup []∧K (.bool false) (upd h' o (some (.blk g (.loop { r with state:=.done,pending:=some c })))))
   | .panic v=>E v h')):Ws P y o g args h K E:=by
 intro B mu w loc cargs s hl hyF ha
 obtain⟨l0,hl0,_,hb⟩:=s.blks _ _ _ ho
 rw [hl] at hl0; cases hl0
 have hcs:cargs.size=r.params.size:=by have:=ha.1; simp at this; omega
 refine⟨r,hb,hcs,fun c cs=>?_⟩
 have hz:(r.params.zip cargs).foldl (fun tmps (t,a)=>tmps.setIfInBounds t a) r.tmps=(r.params.toList.zip cargs.toList).foldl (fun tmps x=>tmps.setIfInBounds x.1 x.2) r.tmps:=by
  rw [← Array.foldl_toList,Array.toList_zip]
 obtain⟨q1,q2⟩:=Afz (n:=n) r.params.toList args cargs.toList fr r.tmps hsz hps (hy hyF) ha
 rw [← hz] at q1 q2
 generalize (r.params.zip cargs).foldl (fun tmps (t,a)=>tmps.setIfInBounds t a) r.tmps=tmps at q1 q2
 subst hfn
 obtain⟨e,w',cs',frm,res,h',mu',u',a1,a2,a3,a4,a5,a6,a7,a8,a9⟩:=hrun loc.b ⟨B.n,w.heap.size⟩ mu w { tmps:=tmps,defers:=[] } (c::cs) ⟨q2,q1,rfl,s.rebase rfl,trivial,(fun l' o' g' hh=>by cases hh; exact⟨loc,hl,rfl⟩),s.base,Nat.le_refl _⟩
 have a9':cs'=c::cs:=a9
 subst a9'
 replace a7:Sim B mu' h' w':=a7.rebase rfl
 replace a8:=a8.ext
 have hfr:(b0 r.fn ⟨false,some (loc.b,o,g)⟩).atR { tmps:=tmps,defers:=[] } [.code r.assign,.beginRound,.code r.body]=Frame.round loc.b r.fn tmps r.assign r.body .normal:=by
  simp [Frame.round,Frame.atR,b0,KD]
 rw [hfr] at a2
 cases e with
 | outgrown=>cases res <;> exact a6.elim
 | returned v=>
  cases res with
  | panic _=>exact a6.elim
  | ret v'=>
   obtain⟨g1,g2,g4,g3⟩:=(a5:frm.roundOf=some loc.b∧frm.mode=.run∧frm.defers=[]∧((v=undef∧frm.todo=[]) ∨ ∃ c k,frm.todo=.code c::k∧Su c k=true∧v=jv c))
   obtain⟨k1,k2⟩:=a1
   have hl':=a8.mu _ _ _ hl
   obtain⟨l1,hl1,_,hb1⟩:=a7.blks _ _ _ k1
   rw [hl'] at hl1; cases hl1
   have hk:frm.kind=.normal:=by rw [a4]; rfl
   rcases k2 with⟨rfl,k2⟩ | ⟨jc,rfl,hjc,k2⟩
   ·
    have hv:v=undef:=by
     have hh:RV h' mu' w' (.tup []) v:=a6
     cases hh with
     | tup vs cs hlen _=>
      have:cs=[]:=by simpa using hlen.symm
      subst this; rfl
    have htodo:frm.todo=[]:=by
     rcases g3 with⟨_,h⟩ | ⟨c',k',_,hj,hv'⟩
     ·exact h
     ·exact absurd (hv'.symm.trans hv) (An9 hj)
    have hend:(Instr.endRound loc.b none).run P w'=.ok (.bool true) { w' with heap:=w'.heap.setIfInBounds loc.b (.loop r) }:=by
     have:({ r with state:=.ready,pending:=none }:Loop)=r:=by
      cases r; simp_all
     simp [Instr.endRound,Instr.getLoop,getObj,setObj,Sem.run,Sem.run_bind,hb1]
     rw [← this]
    obtain⟨s',e'⟩:=a7.setB (x':=.loop r) k1 hl' (fun _ _ _ hh=>by cases hh)
    have hfe:frm=frm.atR { tmps:=frm.tmps,defers:=[] } []:=by
     cases frm; simp_all [Frame.atR]
    refine⟨.returned (.bool true),_,.ret (.bool true),_,mu',k2,s',a8.trans e',.bool true,?_⟩
    refine Steps.trans a2 (.one ?_)
    rw [hfe]
    exact stepR_round_end (b:=frm) g1 hk hend
   ·
    have hv:v=jv jc:=Ang hjc a6
    obtain⟨c',k',htodo,hj,hcc⟩ : ∃ c k,frm.todo=.code c::k∧Su c k=true∧v=jv c:=by
     rcases g3 with⟨h,_⟩ | h
     ·exfalso
      rw [hv] at h
      cases jc with
      | ret=>simp [jv,undef] at h
      | exit id=>simp [jv,undef] at h
      | _=>exact hjc rfl
     ·exact h
    have hcj:c'=jc:=Anv hj hjc (hv.symm.trans hcc)
    subst hcj
    have hend:(Instr.endRound loc.b (some c')).run P w'=.ok (.bool false) { w' with heap:=w'.heap.setIfInBounds loc.b (.loop { r with state:=.done,pending:=some c' }) }:=by
     simp [Instr.endRound,Instr.getLoop,getObj,setObj,Sem.run,Sem.run_bind,hb1]
    obtain⟨s',e'⟩:=a7.setB (x':=.loop { r with state:=.done,pending:=some c' }) k1 hl' (fun _ _ _ hh=>by cases hh)
    have hfe:frm=frm.atR { tmps:=frm.tmps,defers:=[] } (.code c'::k'):=by
     cases frm; simp_all [Frame.atR]
    refine⟨.returned (.bool false),_,.ret (.bool false),_,mu',k2,s',a8.trans e',.bool false,?_⟩
    refine Steps.trans a2 (.one ?_)
    unfold Su at hj
    split at hj
    ·rw [hfe]
     exact stepR_round_ret (b:=frm) g1 hk hend
    ·rw [hfe]
     exact stepR_round_exit (b:=frm) g1 hk (by simpa using hj) hend
    ·cases hj
 | panicked chain=>
  cases res with
  | ret _=>exact a6.elim
  | panic v=>
   exact⟨.panicked chain,w',.panic v,h',mu',a1,a7,a8,a6,Steps.trans a2 (.one (step_leave_panicked a5))⟩
theorem Sim.take {B:Base P}{mu:Mu}{w:World}{b:Nat}{x:Option (List Deferred)}(s:Sim B mu h w)(hb:w.heap[b]? = some (.deferred x))(hm:¬ Do h mu b)(hn:B.n≤b){n0:Nat}(hn0:n0≤b) :
  Sim B mu h { w with heap:=w.heap.setIfInBounds b (.deferred none) }∧Aas n0 h mu w h mu { w with heap:=w.heap.setIfInBounds b (.deferred none) }:=by
 have hlt:b<w.heap.size:=by
  rcases Nat.lt_or_ge b w.heap.size with hh | hh
  ·exact hh
  ·rw [Array.getElem?_eq_none hh] at hb; cases hb
 have hne : ∀ k,k≠b→(w.heap.setIfInBounds b (.deferred none))[k]? = w.heap[k]? := fun k hk=>Array.getElem?_setIfInBounds_ne (Ne.symm hk)
 have hself:(w.heap.setIfInBounds b (.deferred none))[b]? = some (.deferred none):=by simp [hlt]
 have ext:Aas n0 h mu w h mu { w with heap:=w.heap.setIfInBounds b (.deferred none) }:=
  ⟨rfl,rfl,rfl,by simp,fun k hk hkm=>⟨by
   by_cases hq:k=b
   ·subst hq; exact .inr ⟨hn0,_,_,hb,hself⟩
   ·exact .inl (hne k hq),hkm⟩,fun _ _ _ h=>h⟩
 have hcell : ∀ a:Addr,({ w with heap:=w.heap.setIfInBounds b (.deferred none) }:World).cell? a=w.cell? a:=fun a=>by
  by_cases hq:a.block=b
  ·unfold World.cell?
   show(match (w.heap.setIfInBounds b (.deferred none))[a.block]? with | some (.cells cells _ _)=>_ | _=>_)=_
   rw [hq,hself,hb]
  ·exact cell?_of_heap (hne _ hq)
 have hnb : ∀ {o x l},h o=some x→mu o x.gen=some l→l.b≠b:=fun h1 h2 hq=>hm ⟨_,_,_,h1,h2,hq⟩
 refine⟨⟨by simpa using s.base,fun o g l hl=>?_,s.fin,s.finh,fun o g st rs hx=>?_,fun o g es hx=>?_,s.inj,GW.step s.glob fun k hk=>hne k (by omega),fun o g x hx=>?_⟩,ext⟩
 ·obtain⟨h1,h2,h3⟩:=s.muOk o g l hl
  refine⟨h1,by simpa using h2,fun hc=>?_⟩
  obtain⟨cells,e,f,k1,k2,k3⟩:=h3 hc
  have:l.b≠b:=fun hq=>by rw [hq,hb] at k1; cases k1
  exact⟨cells,e,f,(hne _ this).trans k1,k2,k3⟩
 ·obtain⟨l,h1,h2,h3,h4,h5,h6⟩:=s.rows o g st rs hx
  refine⟨l,h1,h2,h3,h4,h5,fun i j hi hj=>?_⟩
  obtain⟨c,hc1,hc2⟩:=h6 i j hi hj
  exact⟨c,(hcell _).trans hc1,hc2.extG ext⟩
 ·obtain⟨l,h1,h2,ens,clock,h3,h4,h5⟩:=s.maps o g es hx
  exact⟨l,h1,h2,ens,clock,⟨(hne _ (hnb hx h1)).trans h3.1,h3.2⟩,h4,fun i hi=>⟨(h5 i hi).1.extG ext,(h5 i hi).2.extG ext⟩⟩
 ·obtain⟨l,h1,h2,h3⟩:=s.blks o g x hx
  exact⟨l,h1,h2,(hne _ (hnb hx h1)).trans h3⟩
theorem N5.extG {n:Nat}{h h':Ag}{mu mu':Mu}{w w':World}(e:Aas n h mu w h' mu' w'){l:List AV}{cs:List Value}(k:N5 h mu w l cs):N5 h' mu' w' l cs:=⟨k.1,fun i hi=>(k.2 i hi).extG e⟩
theorem O6.extG {n:Nat}{h h':Ag}{mu mu':Mu}{w w':World}(e:Aas n h mu w h' mu' w'){u:AU}{m:FrameMode}(k:O6 h mu w u m):O6 h' mu' w' u m:=by
 unfold O6 at k ⊢
 split at k
 ·trivial
 ·exact⟨k.1,k.2.1,k.2.2.extG e⟩
 ·exact k.elim
theorem Ak9 {m:AU}(hr:Pa P f n d m fr ds h u Q)(hds:ds.all (fun d => !d.isStar)=true:=by rfl):Pa P f n d m fr (AD.star::ds) h u Q:=by
 intro B mu w a cs todo mode p hm
 have hp:=p.ds
 unfold Pi at hp
 obtain⟨c1,c2,hq,⟨bs,hnd,hbs,hall⟩,hrest⟩:=hp
 have hmr:mode≠.run:=by intro hh; subst hh; cases m <;> simp [O6] at hm
 have keep : ∀ {mu:Mu} {w w':World} {n0 fb:Nat} (e:Aas n0 h mu w h mu w') (ds:List AD) (cs:List Deferred),ds.all (fun d => !d.isStar)=true→Pi h mu w fb ds cs→Pi h mu w' fb ds cs:=by
  intro mu w w' n0 fb e ds
  induction ds with
  | nil=>intro cs _ hh; exact hh
  | cons d ds ih=>
   intro cs hal hh
   simp only [List.all_cons,Bool.and_eq_true,Bool.not_eq_true'] at hal
   unfold Pi at hh ⊢
   rw [hal.1] at hh ⊢
   obtain⟨c,c2,h1,⟨cap,h2,h2'⟩,h3⟩:=hh
   exact⟨c,c2,h1,⟨cap,h2,h2'.extG e⟩,ih c2 hal.2 h3⟩
 have key : ∀ (bs:List Nat) (w:World) (c1:List Deferred) (a:Act),Pre n d fr ds h u B mu w { a with defers:=c2 } cs→O6 h mu w m mode→a.defers=c1++c2→bs.Nodup→c1.map (·.target)=bs.map (fun b=>.collected b) →
   (∀ b ∈ bs,b<w.heap.size∧¬ Do h mu b∧B.fb≤b∧w.heap[b]? = some (.deferred (some [])))→Ni P f d B h mu w cs Q (lone { (b0 f d).atR a todo with mode:=mode } cs w):=by
  intro bs
  induction bs with
  | nil=>
   intro w c1 a p hm hq _ hbs _
   have:c1=[]:=by simpa using hbs
   subst this
   have ha:({ a with defers:=c2 }:Act)=a:=by cases a; simp at hq; subst hq; rfl
   rw [ha] at p
   exact hr B mu w a cs todo mode p hm
  | cons b bs ih=>
   intro w c1 a p hm hq hnd hbs hall
   match c1,hbs with
   | dc::c1,hbs=>
    simp only [List.map_cons,List.cons.injEq] at hbs
    obtain⟨k1,k2,k3,k4⟩:=hall b (List.mem_cons_self ..)
    obtain⟨s',e'⟩:=p.sim.take k4 k2 (Nat.le_trans p.fb.1 k3) k3
    have hk:(Instr.takeDeferred b).run P w=.ok [] { w with heap:=w.heap.setIfInBounds b (.deferred none) }:=by
     simp [Instr.takeDeferred,getObj,setObj,Sem.run,Sem.run_bind,k4]
    have h1:=step_collected (P:=P) (fr:={ (b0 f d).atR a todo with mode:=mode }) (cs:=cs) (w:=w) hmr (d:=dc) (ds:=c1++c2) (by simpa [Frame.atR] using hq) hbs.1 hk
    have p':Pre n d fr ds h u B mu { w with heap:=w.heap.setIfInBounds b (.deferred none) } { a with defers:=c2 } cs:=
     ⟨p.size,fun t=>(p.fr t).extG e',keep e' ds c2 hds p.ds,s',by
      obtain⟨q,ro⟩:=d
      cases q with
      | false=>trivial
      | true=>obtain⟨c,r,h1,h2⟩:=p.cs; exact⟨c,r,h1,h2.extG e'⟩,p.rnd,p.fb.1,by simpa using p.fb.2⟩
    have hnd':=List.nodup_cons.1 hnd
    exact .extG e' (.head h1 (ih _ c1 { a with defers:=c1++c2 } p' (hm.extG e') rfl hnd'.2 hbs.2 (fun b' hb'=>by
     obtain⟨q1,q2,q3,q4⟩:=hall b' (List.mem_cons_of_mem _ hb')
     refine⟨by simpa using q1,q2,q3,?_⟩
     have hne:b'≠b:=fun hq=>hnd'.1 (hq ▸ hb')
     exact(Array.getElem?_setIfInBounds_ne (Ne.symm hne)).trans q4)))
 exact key bs w c1 a ⟨p.size,p.fr,hrest,p.sim,p.cs,p.rnd,p.fb⟩ hm hq hnd hbs hall
theorem Ak2 {todo:List Item}(hr:E5 P f n d todo fr (AD.star::ds) h u Q):E5 P f n d todo fr ds h u Q:=fun B mu w a cs p=>
 hr B mu w a cs ⟨p.size,p.fr,⟨[],a.defers,rfl,⟨[],List.nodup_nil,rfl,fun b hb=>by cases hb⟩,p.ds⟩,p.sim,p.cs,p.rnd,p.fb⟩
structure LpOk (f n:Nat)(params:Array Tmp)(assign body:Code)(r:Loop):Prop where
 ready:r.state=.ready
 pend:r.pending=none
 fn:r.fn=f
 size:r.tmps.size=n
 params:r.params=params
 assign:r.assign=assign
 body:r.body=body
theorem Xs {x:Operand}{params:Array Tmp}{assign body:Code}{gf:FuncId}{cap:List AV}(oL:Nat)(hro:d.ro=none)(hx:ev fr x=.func (.func gf) [] cap)(hoL:h oL=none)
  (hgo : ∀ (gL:Nat) (y:YF) (r:Loop),LpOk f n params assign body r→(∀ {mu:Mu} {w:World} {M:Nat→Prop} {l:Nat},y.F w mu M l → ∀ t,Rv w mu M (fr t) (r.tmps.getD t undef)) →
   Bw P gf ([.yld y oL gL]++cap) (upd h oL (some (.blk gL (.loop r)))) (fun res h'=>match res with
    | .ret _ => ∃ r':Loop,h' oL=some (.blk gL (.loop r'))∧r'.state≠.busy∧E5 P f n d ((r'.pending.map Item.code).toList++k) fr (AD.star::ds) (upd h' oL none) u Q
    | .panic v=>Pa P f n d (.pan v false) fr (AD.star::ds) (upd h' oL none) u Q)) :
  E5 P f n d (.code (.rangeFunc x params assign body)::k) fr (AD.star::ds) h u Q:=by
 intro B mu w a cs p
 obtain⟨s1,e1⟩:=p.sim.junk (.deferred (some []))
 obtain⟨gL,hgL⟩:=s1.fresh oL
 generalize hr:({ state:=.ready,pending:=none,fn:=f,tmps:=a.tmps,params:=params,assign:=assign,body:=body,defers:=w.heap.size }:Loop)=r
 obtain⟨s2,e2⟩:=s1.pushB (.loop r) hoL hgL
 have e12:=e1.trans e2
 have hsz1:(w.alloc (.deferred (some []))).heap.size=w.heap.size+1:=E2 ..
 have hent:(Instr.enterLoop (b0 f d).fn a.tmps params assign body (b0 f d).roundOf).run P w=.ok (w.heap.size+1,[{ target:=.collected w.heap.size,args := #[] }]) ((w.alloc (.deferred (some []))).alloc (.loop r)):=by
  have hro':(b0 f d).roundOf=none:=by simp [b0,hro]
  rw [hro',← hr,← hsz1]
  rfl
 have p2:=p.ext e12 s2
 let y:YF:=⟨fun w mu M l => ∀ t,Rv w mu M (fr t) (a.tmps.getD t undef),fun e hh t=>(hh t).extG e⟩
 have hcall:=hgo gL y r (by subst hr; exact⟨rfl,rfl,rfl,p.size,rfl,rfl,rfl⟩) (fun hh t=>by subst hr; exact hh t)
 obtain⟨hb,hcall⟩:=hcall
 have hxv:=Mz p2.fr x
 rw [hx] at hxv
 obtain⟨f2,c2,hfv,hf2,hc2⟩:=Aay hxv
 have hf2':f2=[]:=by have:=hf2.1; simp at this; exact List.length_eq_zero_iff.1 this.symm
 subst hf2'
 have hinv:((resolve a.eval (rangeCall x (w.heap.size+1)) 0) >>= fun d=>invoke d.target d.args).run P ((w.alloc (.deferred (some []))).alloc (.loop r))=.ok (.enter gf (#[] ++ #[Value.func (.yield (w.heap.size+1)) #[] #[]]++c2.toArray)) ((w.alloc (.deferred (some []))).alloc (.loop r)):=by
  have:=Zz (P:=P) (ρ:=a.eval) (x:=x) (args := #[.const (.func (.yield (w.heap.size+1)) #[] #[])]) (ts := #[]) (ty:=0) (w:=(w.alloc (.deferred (some []))).alloc (.loop r)) hfv hb
  simpa [rangeCall,Act.eval] using this
 have hres : ∃ dd,(resolve a.eval (rangeCall x (w.heap.size+1)) 0).run P ((w.alloc (.deferred (some []))).alloc (.loop r))=.ok dd ((w.alloc (.deferred (some []))).alloc (.loop r))∧(invoke dd.target dd.args).run P ((w.alloc (.deferred (some []))).alloc (.loop r))=.ok (.enter gf (#[] ++ #[Value.func (.yield (w.heap.size+1)) #[] #[]]++c2.toArray)) ((w.alloc (.deferred (some []))).alloc (.loop r)):=by
  rw [Sem.run_bind] at hinv
  have hrr : ∃ dd,(resolve a.eval (rangeCall x (w.heap.size+1)) 0).run P ((w.alloc (.deferred (some []))).alloc (.loop r))=.ok dd ((w.alloc (.deferred (some []))).alloc (.loop r)):=by
   simp [rangeCall,resolve,hfv,Deferred.ofValue]
  obtain⟨dd,hdd⟩:=hrr
  refine⟨dd,hdd,?_⟩
  rw [hdd] at hinv
  simpa using hinv
 obtain⟨dd,hd1,hd2⟩:=hres
 have henter:=stepR_rangeFunc (P:=P) (b:=b0 f d) (a:=a) (k:=k) (cs:=cs) (w:=w) hent hd1 hd2
 have hlL:Dy mu oL gL ⟨(w.alloc (.deferred (some []))).heap.size,0,0,0,false⟩ oL gL=some ⟨(w.alloc (.deferred (some []))).heap.size,0,0,0,false⟩:=by
  simp [Dy]
 have hargs:N5 (upd h oL (some (.blk gL (.loop r)))) (Dy mu oL gL ⟨(w.alloc (.deferred (some []))).heap.size,0,0,0,false⟩) ((w.alloc (.deferred (some []))).alloc (.loop r)) ([.yld y oL gL]++cap) (#[] ++ #[Value.func (.yield (w.heap.size+1)) #[] #[]]++c2.toArray).toList:=by
  simp only [Array.toList_append,List.nil_append]
  refine N5.append ⟨rfl,fun i hi=>?_⟩ hc2
  have:i=0:=by simpa using hi
  subst this
  have hv:=Rv.yld (w:=(w.alloc (.deferred (some []))).alloc (.loop r)) (M:=Do (upd h oL (some (.blk gL (.loop r)))) (Dy mu oL gL ⟨(w.alloc (.deferred (some []))).heap.size,0,0,0,false⟩)) y oL gL _ hlL (fun t=>p2.fr t)
  show Rv _ _ _ (.yld y oL gL) (.func (.yield (w.heap.size+1)) #[] #[])
  rw [← hsz1]
  exact hv
 obtain⟨e,w',frm,⟨res,h',mu',hQ,hs',hext,hE⟩,hcomes,hfn,hleave⟩:=hcall B _ _ _ s2 hargs ((b0 f d).atR { a with defers:=[{ target:=.collected w.heap.size,args := #[] }]++a.defers } (.inRangeFunc (w.heap.size+1)::k)::cs)
 have p3:=p2.ext hext hs'
 have hsubL:Sub (upd h' oL none) h':=fun o' y' hh=>by
  unfold upd at hh
  split at hh
  ·cases hh
  ·exact hh
 have hmark:Pi h' mu' w' B.fb (AD.star::ds) ([{ target:=.collected w.heap.size,args := #[] }]++a.defers):=by
  have hp0:=p.ds
  unfold Pi at hp0 ⊢
  obtain⟨c1,c2,hq,⟨bs,k1,k2,k3⟩,hrest⟩:=hp0
  have E:=e12.trans hext
  have hD:(w.alloc (.deferred (some []))).heap[w.heap.size]? = some (.deferred (some [])):=Lv
  have hD2:((w.alloc (.deferred (some []))).alloc (.loop r)).heap[w.heap.size]? = some (.deferred (some [])):=by rw [Du (by rw [hsz1]; omega)]; exact hD
  have hDm:¬ Do (upd h oL (some (.blk gL (.loop r)))) (Dy mu oL gL ⟨(w.alloc (.deferred (some []))).heap.size,0,0,0,false⟩) w.heap.size:=by
   rintro⟨o1,x1,l1,q1,q2,q3⟩
   by_cases ho1:o1=oL
   ·subst ho1
    rw [Aey] at q1; cases q1
    rw [show(AO.blk gL (.loop r)).gen=gL from rfl,hlL] at q2; cases q2
    simp only at q3; rw [hsz1] at q3; omega
   ·rw [Acl _ _ _ ho1] at q1
    have:mu o1 x1.gen=some l1:=by
     have:Dy mu oL gL ⟨(w.alloc (.deferred (some []))).heap.size,0,0,0,false⟩ o1 x1.gen=mu o1 x1.gen:=by simp [Dy,ho1]
     rw [← this]; exact q2
    have:=(p.sim.muOk _ _ _ this).2.1
    omega
  have hsz2:((w.alloc (.deferred (some []))).alloc (.loop r)).heap.size=w.heap.size+2:=by rw [E2,hsz1]
  obtain⟨j1,j2⟩:=hext.same w.heap.size (by rw [hsz2]; omega) hDm
  refine⟨{ target:=.collected w.heap.size,args := #[] }::c1,c2,by rw [hq]; rfl,⟨w.heap.size::bs,List.nodup_cons.2 ⟨fun hm=>by have:=(k3 _ hm).1; omega,k1⟩,by simp [k2],fun b hb=>?_⟩,hrest.ext E⟩
  rcases List.mem_cons.1 hb with rfl | hb
  ·exact⟨Nat.lt_of_lt_of_le (by rw [hsz2]; omega) hext.size,j2,p.fb.2,j1.trans hD2⟩
  ·obtain⟨q1,q2,q3,q4⟩:=k3 b hb
   obtain⟨s1,s2⟩:=E.same b q1 q2
   exact⟨Nat.lt_of_lt_of_le q1 E.size,s2,q3,s1.trans q4⟩
 have p4:Pre n d fr (AD.star::ds) h' u B mu' w' { a with defers:=[{ target:=.collected w.heap.size,args := #[] }]++a.defers } cs:=⟨p3.size,p3.fr,hmark,hs',p3.cs,p3.rnd,p3.fb⟩
 cases e with
 | outgrown=>cases res <;> exact hE.elim
 | returned c=>
  cases res with
  | panic v=>exact hE.elim
  | ret v=>
   obtain⟨r',hr',hst,hrun⟩:=hQ
   have hfin:=step_leave_returned hleave (c:=(b0 f d).atR { a with defers:=[{ target:=.collected w.heap.size,args := #[] }]++a.defers } (.inRangeFunc (w.heap.size+1)::k)) (cs:=cs)
   rw [finish_atR_inRangeFunc] at hfin
   have hlL':=hext.mu _ _ _ hlL
   rw [hsz1] at hlL'
   obtain⟨l1,hl1,_,hb1⟩:=hs'.blks _ _ _ hr'
   rw [hlL'] at hl1; cases hl1
   have hend:(Instr.endLoop (w.heap.size+1)).run P w'=.ok r'.pending { w' with heap:=w'.heap.setIfInBounds (w.heap.size+1) (.loop { r' with state:=.exhausted }) }:=by
    have hnb:(r'.state==.busy)=false:=by
     cases hq:r'.state with
     | busy=>exact absurd hq hst
     | ready=>rfl
     | done=>rfl
     | exhausted=>rfl
    simp [Instr.endLoop,Instr.getLoop,getObj,setObj,Sem.run,Sem.run_bind,hb1,hnb,hst]
   obtain⟨s5,e5⟩:=hs'.setB (x':=.loop { r' with state:=.exhausted }) hr' hlL' (fun _ _ _ hh=>by cases hh)
   have hsub5:Sub (upd h' oL none) (upd h' oL (some (.blk gL (.loop { r' with state:=.exhausted })))):=fun o' y' hh=>by
    unfold upd at hh ⊢
    split at hh
    ·cases hh
    ·rename_i hq; rw [if_neg hq]; exact hh
   have p5:=(p4.ext e5 s5).ext (Et.sub hsub5) (s5.sub hsub5)
   exact .ext (e12.trans hext) (.ext e5 (.ext (Et.sub hsub5) (.steps (.head henter (Steps.trans hcomes (.head hfin (.one (stepR_endRangeFunc hend))))) (hrun B mu' _ _ cs p5))))
 | panicked chain=>
  cases res with
  | ret v=>exact hE.elim
  | panic v=>
   have hfin:=step_leave_panicked hleave (c:=(b0 f d).atR { a with defers:=[{ target:=.collected w.heap.size,args := #[] }]++a.defers } (.inRangeFunc (w.heap.size+1)::k)) (cs:=cs)
   obtain⟨x',hx',x1,x2,x3⟩:=hE.panic_inv
   cases hx'
   rw [Frame.raise_atR] at hfin
   have p5:=p4.ext (Et.sub hsubL) (hs'.sub hsubL)
   have hu5:O6 (upd h' oL none) mu' w' (.pan v false) (.panicking [x']):=⟨x1,x2,x3.ext (Et.sub hsubL)⟩
   exact .ext (e12.trans hext) (.ext (Et.sub hsubL) (.steps (.head henter (Steps.trans hcomes (.one hfin))) (hQ B mu' w' _ cs _ _ p5 hu5)))
end
end Go.Am
namespace Go.Am
open Go
set_option linter.unusedSimpArgs false
set_option linter.unusedVariables false
set_option linter.unusedSectionVars false
def Aae {σ:Type}(St:σ→Ag→Prop)(m:R σ):AR→Ag→Prop:=fun r h'=>match m with
 | .ok s=>(∃ v,r=.ret v)∧St s h'
 | .pan v=>r=.panic v.av ∧ ∃ s,St s h'
 | .bad=>False
def Aik {σ:Type}(St:σ→Ag→Prop):Spec σ:=⟨fun m=>m≠.bad,fun h=>h rfl,fun m r h' _=>Aae St m r h'⟩
section
variable {P:Program} [GW P] {f:FuncId} {n:Nat} {d:FK} {σ β γ:Type} {Q:Spec β} {ds:List AD} {h:Ag} {u:AU} {k:List Item} {l:List (Nat×AV)} {St:σ→Ag→Prop} {m:R σ}
theorem Ae5 {fn : Func} {c : Code} {args : List AV} (hf : P.funcs[f]? = some fn) (hb : fn.body = some c) (hn : fn.name ≠ "runtime.NumGoroutine") (hnt : fn.ntmps = n) (hl : Nat.ble args.length n = true)
  (hr : WR P f n false (Aik St) m [.code c] (A0 (Vx 0 args)) [] h .ret) (hm : m ≠ .bad) : Bw P f args h (Aae St m) := by
 refine Qo hf hb hn hnt (by simpa using hl) ?_
 refine Ql (fun t => ?_) (hr hm)
 rcases Qz args 0 t with h | ⟨_, h⟩
 ·exact .inl h
 ·exact .inr h
theorem Al9 {fn:Func}{s:σ}{vs:List AV}{fr:Nat→AV}(hf:P.funcs[f]? = some fn)(hr:Hn P h fr fn.results.toList=some vs)(hs:St s h):WR P f n false (Aik St) (.ok s) (.code .ret::k) fr [] h u:=fun _=>
 T1 (Ac4 hf hr ⟨⟨_,rfl⟩,hs⟩)
theorem Ahk {fn:Func}{s:σ}{vs:List AV}{fr:Nat→AV}(hf:P.funcs[f]? = some fn)(hr:Hn P h fr fn.results.toList=some vs)(hs:St s h):WR P f n false (Aik St) (.ok s) [] fr [] h u:=fun _=>
 Zd (Ac4 hf hr ⟨⟨_,rfl⟩,hs⟩)
def YOk (P:Program)[GW P](y:YF)(o g:Nat)(A:List AV)(St:σ→Ag→Prop)(b:σ→R σ):Prop:=
 ∀ s h,St s h → ∀ s',b s=.ok s'→Ws P y o g A h (fun v h'=>v=.bool true∧St s' h') (fun _ _=>False)
section
variable {all r:List Oper} {ty:TypeId} {pos:String} {after:Array Edge} {F:γ→R β}
theorem Alf {t:Nat}{x:Operand}{as0:List Operand}{ts:Array TypeId}{y:YF}{o g:Nat}{A:List AV}{b:σ→R σ}{s:σ}{rest:σ→R γ}(ht:Nat.blt t n=true)(hx:ev (A0 l) x=.yld y o g)(ha:G6 (A0 l) as0=A)(hs:St s h)
  (hy:YOk P y o g A St b) (hnp : ∀ v,b s≠.pan v) (hk : ∀ s',b s=.ok s' → ∀ h',St s' h'→WO P f n d Q k all ((rest s').bind F) r (A0 ((t,.bool true)::l)) ds h' u) :
  WO P f n d Q k all (((b s).bind rest).bind F) (⟨some t,.call ⟨.value x,⟨as0⟩,ts⟩,ty,pos,after,none⟩::r) (A0 l) ds h u:=by
 refine Abq (R.bind_assoc _ _ _) (Ng (by simpa [F1] using ht) rfl fun hb K U hK hU=>?_)
 simp only [Ib,hx]
 rw [ha]
 cases hm:b s with
 | bad=>rw [hm] at hb; exact absurd hb Q.bad
 | pan v=>exact absurd hm (hnp v)
 | ok s'=>
  have hk':=hk s' hm
  rw [hm] at hK
  refine Sm (fun v h' hv=>?_) (fun _ _ hf=>hf.elim) (hy s h hs s' hm)
  obtain⟨rfl,hs'⟩:=hv
  exact hK _ _ _ _ (by rw [Ey]; exact hk' h' hs')
end
def Aet {σ:Type}(o g:Nat)(r:Loop)(St:σ→Ag→Prop):Spec σ:=⟨fun m => ∃ s:σ,m=.ok s,(fun h=>by obtain⟨s,h⟩:=h; cases h),fun m a h' _ => ∃ s:σ,m=.ok s∧a=.ret (.tup [])∧h' o=some (.blk g (.loop { r with state:=.busy }))∧St s (upd h' o (some (.blk g (.loop r))))⟩
theorem Amu {lo:Nat×Nat×Nat}{o g:Nat}{r:Loop}{s:σ}{fr:Nat→AV}(ho:h o=some (.blk g (.loop { r with state:=.busy })))(hs:St s (upd h o (some (.blk g (.loop r))))) :
  WR P f n ⟨false,some lo⟩ (Aet o g r St) (.ok s) [] fr [] h u:=by
 intro hV B mu w a cs p
 have hd:a.defers=[]:=p.ds
 refine⟨.returned undef,w,cs,_,.ret (.tup []),h,mu,u,⟨s,rfl,rfl,ho,hs⟩,Steps.refl P _,rfl,rfl,?_,.und,p.sim,(Ext.refl _ _ _).g,.refl p.cs⟩
 exact⟨rfl,rfl,hd,.inl ⟨rfl,rfl⟩⟩
theorem Ajn {y:YF}{o g:Nat}{r:Loop}{params:Array Tmp}{assign body:Code}{A:List AV}{b:σ→R σ}(hlp:LpOk f n params assign body r)(hps:params.toList.all (fun p=>Nat.blt p n)=true)(hla:A.length=params.size)
  (hy : ∀ {mu:Mu} {w:World} {M:Nat→Prop} {lo:Nat},y.F w mu M lo → ∀ t,Rv w mu M (A0 l t) (r.tmps.getD t undef)) (hat : ∀ s h,St s h→h o=some (.blk g (.loop r)))
  (hr : ∀ (lo:Nat) (s:σ) (h:Ag),St s h→WR P f n ⟨false,some (lo,o,g)⟩ (Aet o g r St) (b s) [.code assign,.beginRound,.code body] (Tk (A0 l) params.toList A) [] h .ret):YOk P y o g A St b:=by
 intro s h hs s' hb
 obtain⟨h1,h2,h3,h4,rfl,rfl,rfl⟩:=hlp
 refine Zy (f:=f) (n:=n) (fr:=A0 l) (hat s h hs) h1 h2 h3 h4 (fun p hp=>by have:=List.all_eq_true.1 hps p hp; simpa using this) (fun hF t=>hy hF t) hla fun lo=>?_
 refine Afm (hr lo s h hs ⟨s',hb⟩) fun a h' u' hq=>?_
 obtain⟨s2,e,rfl,hb1,hs2⟩:=hq
 rw [hb] at e; cases e
 exact⟨hb1,.inl ⟨rfl,rfl,hs2⟩⟩
theorem Yp : ∀ (ps:List Nat) (A:List AV) (l:List (Nat×AV)),Tk (A0 l) ps A=A0 ((ps.zip A).reverse++l)
 | [],_,l=>rfl
 | p::ps,[],l=>rfl
 | p::ps,v::A,l=>by
  rw [Tk]
  have:upd (A0 l) p v=A0 ((p,v)::l):=Ey l p v
  rw [this,Yp ps A]
  simp
section
variable {h0:Ag} {ids:List Nat} {xs:List (Option AO)} {N:Nat} {F:γ→R β}
theorem Aod {lo:Nat×Nat×Nat}{o g:Nat}{r:Loop}{m:R σ}{todo:List Item}{fr:Nat→AV}(hr:WR P f n ⟨false,some lo⟩ (Aet o g r St) m todo fr ds h u):WR P f n ⟨false,some lo⟩ (Aet o g r St) m.np todo fr ds h u:=by
 intro hV
 cases m with
 | ok s=>exact hr hV
 | pan v=>obtain⟨s,h⟩:=hV; cases h
 | bad=>obtain⟨s,h⟩:=hV; cases h
theorem Akh {Q:Spec β}{m:R β}{todo:List Item}{fr:Nat→AV}(l':List (Nat×AV))(e:fr=A0 l')(hr:WR P f n d Q m todo (A0 l') ds h u):WR P f n d Q m todo fr ds h u:=e ▸ hr
theorem Wr {Q:Spec β}{m:R β}{lr jL g:Nat}{r:Loop}{fr:Nat→AV}(hI:Ids h0 ids N)(hl:xs.length=N)(hj:Nat.blt jL N=true)(hx:xs[jL]? = some (some (.blk g (.loop r))))(hs:r.state=.ready)
  (hr:WR P f n ⟨false,some (lr,ix ids jL,g)⟩ Q m k fr ds (hp h0 ids (xs.set jL (some (.blk g (.loop { r with state:=.busy }))))) u):WR P f n ⟨false,some (lr,ix ids jL,g)⟩ Q m (.beginRound::k) fr ds (hp h0 ids xs) u:=fun hb=>
 Acn rfl (hI.at hl hx) hs (by rw [hI.set hl hj]; exact hr hb)
theorem Ald {lo:Nat×Nat×Nat}{jL g:Nat}{r:Loop}{s:σ}{fr:Nat→AV}(hI:Ids h0 ids N)(hl:xs.length=N)(hj:Nat.blt jL N=true)(hx:xs[jL]? = some (some (.blk g (.loop { r with state:=.busy }))))(hs:St s (hp h0 ids (xs.set jL (some (.blk g (.loop r)))))) :
  WR P f n ⟨false,some lo⟩ (Aet (ix ids jL) g r St) (.ok s) [] fr [] (hp h0 ids xs) u:=Amu (hI.at hl hx) (by rw [hI.set hl hj]; exact hs)
theorem Ae7 {Q:Spec β}{m:R β}{todo:List Item}{fr:Nat→AV}{j:Nat}{y:Option AO}(ys:List (Option AO))(hI:Ids h0 ids N)(hl:xs.length=N)(hj:Nat.blt j N=true)(e:xs.set j y=ys)(hr:WR P f n d Q m todo fr ds (hp h0 ids ys) u):WR P f n d Q m todo fr ds (upd (hp h0 ids xs) (ix ids j) y) u:=by
 rw [hI.set hl hj,e]; exact hr
theorem Aen {Q:Spec β}{m:R β}{a:AU}{fr:Nat→AV}{j:Nat}{y:Option AO}(ys:List (Option AO))(hI:Ids h0 ids N)(hl:xs.length=N)(hj:Nat.blt j N=true)(e:xs.set j y=ys)(hr:WU P f n d Q m a fr ds (hp h0 ids ys) u):WU P f n d Q m a fr ds (upd (hp h0 ids xs) (ix ids j) y) u:=by
 rw [hI.set hl hj,e]; exact hr
end
theorem Afg {x:Operand}{params:Array Tmp}{assign body:Code}{gf:FuncId}{cap:List AV}{m:R σ}{rest:σ→R β}{h0:Ag}{ids:List Nat}{xs:List (Option AO)}{N:Nat}(jL:Nat)(St:Nat→Loop→σ→Ag→Prop)
  (hro:d.ro=none) (hx:ev (A0 l) x=.func (.func gf) [] cap) (hI:Ids h0 ids N) (hl:xs.length=N) (hjL:Nat.blt jL N=true) (hxL:xs[jL]? = some none)
  (hgo : ∀ (gL:Nat) (y:YF) (r:Loop),LpOk f n params assign body r→(∀ {mu:Mu} {w:World} {M:Nat→Prop} {lo:Nat},y.F w mu M lo → ∀ t,Rv w mu M (A0 l t) (r.tmps.getD t undef)) →
   (m≠.bad→Bw P gf ([.yld y (ix ids jL) gL]++cap) (hp h0 ids (xs.set jL (some (.blk gL (.loop r))))) (Aae (St gL r) m)) ∧
   (∀ s h',St gL r s h'→h' (ix ids jL)=some (.blk gL (.loop r))) ∧
   (∀ s,m=.ok s → ∀ h',St gL r s h'→WR P f n d Q (rest s) k (A0 l) (AD.star::ds) (upd h' (ix ids jL) none) u) ∧
   (∀ v,m=.pan v → ∀ s h',St gL r s h'→WU P f n d Q (.pan v) (.pan v.av false) (A0 l) (AD.star::ds) (upd h' (ix ids jL) none) u)) :
  WR P f n d Q (m.bind rest) (.code (.rangeFunc x params assign body)::k) (A0 l) (AD.star::ds) (hp h0 ids xs) u:=by
 intro hV
 refine Xs (ix ids jL) hro hx (hI.at hl hxL) fun gL y r hlp hyF=>?_
 obtain⟨c1,c2,c3,c4⟩:=hgo gL y r hlp hyF
 rw [hI.set hl hjL]
 have hmb:m≠.bad:=fun e=>by rw [e] at hV; exact Q.bad hV
 refine(c1 hmb).mono fun res h' hq=>?_
 cases hm:m with
 | bad=>exact absurd hm hmb
 | ok s=>
  rw [hm] at hq
  obtain⟨⟨v,rfl⟩,hs⟩:=hq
  refine⟨r,c2 s h' hs,by rw [hlp.ready]; exact fun e=>(by cases e),?_⟩
  rw [hlp.pend]
  refine c3 s hm h' hs ?_
  rw [hm] at hV; exact hV
 | pan v=>
  rw [hm] at hq
  obtain⟨rfl,s,hs⟩:=hq
  refine c4 v hm s h' hs ?_
  rw [hm] at hV; exact hV
theorem Ae0 {x:Operand}{params:Array Tmp}{assign body:Code}{gf:FuncId}{cap:List AV}{m:R σ}{rest:σ→R γ}{F:γ→R β}{h0:Ag}{ids:List Nat}{xs:List (Option AO)}{N:Nat}(jL:Nat)(St:Nat→Loop→σ→Ag→Prop)
  (hro:d.ro=none) (hx:ev (A0 l) x=.func (.func gf) [] cap) (hI:Ids h0 ids N) (hl:xs.length=N) (hjL:Nat.blt jL N=true) (hxL:xs[jL]? = some none)
  (hgo : ∀ (gL:Nat) (y:YF) (r:Loop),LpOk f n params assign body r→(∀ {mu:Mu} {w:World} {M:Nat→Prop} {lo:Nat},y.F w mu M lo → ∀ t,Rv w mu M (A0 l t) (r.tmps.getD t undef)) →
   (m≠.bad→Bw P gf ([.yld y (ix ids jL) gL]++cap) (hp h0 ids (xs.set jL (some (.blk gL (.loop r))))) (Aae (St gL r) m)) ∧
   (∀ s h',St gL r s h'→h' (ix ids jL)=some (.blk gL (.loop r))) ∧
   (∀ s,m=.ok s → ∀ h',St gL r s h'→WR P f n d Q ((rest s).bind F) k (A0 l) (AD.star::ds) (upd h' (ix ids jL) none) u) ∧
   (∀ v,m=.pan v → ∀ s h',St gL r s h'→WU P f n d Q (.pan v) (.pan v.av false) (A0 l) (AD.star::ds) (upd h' (ix ids jL) none) u)) :
  WR P f n d Q ((m.bind rest).bind F) (.code (.rangeFunc x params assign body)::k) (A0 l) (AD.star::ds) (hp h0 ids xs) u:=by
 rw [R.bind_assoc]
 exact Afg jL St hro hx hI hl hjL hxL hgo
theorem Se {m:R β}{a:AU}{fr:Nat→AV}(hr:WU P f n d Q m a fr ds h u)(hds:ds.all (fun d => !d.isStar)=true:=by rfl):WU P f n d Q m a fr (AD.star::ds) h u:=fun hV=>Ak9 (hr hV) hds
theorem Ag9 {m:R β}{fr:Nat→AV}(hr:WR P f n d Q m k fr (AD.star::ds) h u):WR P f n d Q m k fr ds h u:=fun hV=>Ak2 (hr hV)
theorem Ac3 {m:R β}{fr:Nat→AV}(hr:WU P f n d Q m .ret fr ds h u)(hro:d.ro=none:=by rfl):WR P f n d Q m (.code .ret::k) fr ds h u:=fun hV=>T1 (hr hV) hro
end
section
variable {P:Program} [GW P] {f:FuncId} {n:Nat} {α:Type} {u:AU} {l:List (Nat×AV)} {h0:Ag} {ids:List Nat} {xs:List (Option AO)} {N K:Nat} {e:α→AV}
theorem Ajq {fn:Func}{a:α}{vs:List AV}(hf:P.funcs[f]? = some fn)(hI:Ids h0 ids N)(hr:Hn P (hp h0 ids xs) (A0 l) fn.results.toList=some vs)(hz:Fz (hp h0 ids xs) h0 (Jr vs) (e a)) :
  WU P f n false (Aes e h0) (.ok a) .ret (A0 l) [] (hp h0 ids xs) u:=fun _=>R3 hf hr (hI.sub xs) hz rfl ⟨rfl,rfl⟩
theorem Ami {S:α→AV→Ag→Prop}{fn:Func}{a:α}{vs:List AV}{v:AV}(ys:List (Option AO))(hf:P.funcs[f]? = some fn)(hI:Ids h0 ids (K+N))(hl:xs.length=K+N)(hr:Hn P (hp h0 ids xs) (A0 l) fn.results.toList=some vs)
  (hy:ys.length=K) (hx:HL (hp h0 ids xs) (hp h0 ids (ys++List.replicate N none)) xs (ys++List.replicate N none)) (hz:Fz (hp h0 ids xs) (hp h0 ids (ys++List.replicate N none)) (Jr vs) v) (hS:S a v (hp h0 (tkf ids K 0) ys)) :
  WU P f n false (Aa8 S h0) (.ok a) .ret (A0 l) [] (hp h0 ids xs) u:=fun _=>by
 refine Aaf hf hr (hx.hfz hI hl) hz rfl ⟨v,rfl,?_⟩
 rw [Acz hI hy]; exact hS
end
section
variable {P:Program} [GW P] {f:FuncId} {n:Nat} {d:FK} {σ ε β γ:Type} {Q:Spec β} {ds:List AD} {h:Ag} {u:AU} {k:List Item} {l:List (Nat×AV)} {St:σ ⊕ ε→Ag→Prop}
def Ak4 (P:Program)[GW P](y:YF)(o g:Nat)(A:List AV)(St:σ ⊕ ε→Ag→Prop)(b:σ→R (σ ⊕ ε)):Prop:=
 ∀ s h,St (.inl s) h → ∀ x,b s=.ok x→Ws P y o g A h (fun v h'=>v=.bool x.isLeft∧St x h') (fun _ _=>False)
section
variable {all r:List Oper} {ty:TypeId} {pos:String} {after:Array Edge} {F:γ→R β}
theorem Ajz {i:Nat}{pre:List (List Nat)}{plan:Gs}{pend:O2}{t:Nat}{x:Operand}{as0:List Operand}{ts:Array TypeId}{y:YF}{o g:Nat}{A:List AV}{b:σ→R (σ ⊕ ε)}{s:σ}{r1:σ→R γ}{r2:ε→R γ}(ho:all[i]? = some ⟨some t,.call ⟨.value x,⟨as0⟩,ts⟩,ty,pos,after,none⟩)(ht:Nat.blt t n=true)(hx:ev (A0 l) x=.yld y o g)(ha:G6 (A0 l) as0=A)(hs:St (.inl s) h)
  (hy:Ak4 P y o g A St b) (hnp : ∀ v,b s≠.pan v) (hpd : ∀ h',G8 P all pre i h' pend) (hk1 : ∀ s',b s=.ok (.inl s') → ∀ h',St (.inl s') h'→WP P f n d Q k all pre ((r1 s').bind F) plan pend (A0 ((t,.bool true)::l)) ds h' u)
  (hk2 : ∀ e,b s=.ok (.inr e) → ∀ h',St (.inr e) h'→WP P f n d Q k all pre ((r2 e).bind F) plan pend (A0 ((t,.bool false)::l)) ds h' u) :
  WP P f n d Q k all pre (((b s).bind (G9 r1 r2)).bind F) ((true,i)::plan) pend (A0 l) ds h u:=by
 refine Aba (R.bind_assoc _ _ _) (Wj ho (by simpa [F1] using ht) rfl fun hb K U hK hU=>?_)
 simp only [Ib,hx]
 rw [ha]
 cases hm:b s with
 | bad=>rw [hm] at hb; exact absurd hb Q.bad
 | pan v=>exact absurd hm (hnp v)
 | ok z=>
  rw [hm] at hK
  refine Sm (fun v h' hv=>?_) (fun _ _ hf=>hf.elim) (hy s h hs z hm)
  obtain⟨rfl,hs'⟩:=hv
  cases z with
  | inl s'=>exact hK _ _ _ _ (hpd h') (by rw [Ey]; exact hk1 s' hm h' hs')
  | inr e=>exact hK _ _ _ _ (hpd h') (by rw [Ey]; exact hk2 e hm h' hs')
end
def Xi {σ ε:Type}(o g:Nat)(r:Loop)(St:σ ⊕ ε→Ag→Prop)(jm:ε→Code):Spec (σ ⊕ ε):=⟨fun m => ∃ s,m=.ok s,(fun h=>by obtain⟨s,h⟩:=h; cases h),fun m a h' _ => ∃ s,m=.ok s∧h' o=some (.blk g (.loop { r with state:=.busy })) ∧
 match s with
 | .inl _=>a=.ret (.tup [])∧St s (upd h' o (some (.blk g (.loop r))))
 | .inr e=>a=.ret (jav (jm e))∧jav (jm e)≠.tup []∧St s (upd h' o (some (.blk g (.loop { r with state:=.done,pending:=some (jm e) }))))⟩
section
variable {lo:Nat×Nat×Nat} {o g:Nat} {r:Loop} {jm:ε→Code} {fr:Nat→AV}
theorem Alv {s:σ}(ho:h o=some (.blk g (.loop { r with state:=.busy })))(hs:St (.inl s) (upd h o (some (.blk g (.loop r))))) :
  WR P f n ⟨false,some lo⟩ (Xi o g r St jm) (.ok (.inl s)) [] fr [] h u:=by
 intro hV B mu w a cs p
 have hd:a.defers=[]:=p.ds
 refine⟨.returned undef,w,cs,_,.ret (.tup []),h,mu,u,⟨_,rfl,ho,rfl,hs⟩,Steps.refl P _,rfl,rfl,?_,.und,p.sim,(Ext.refl _ _ _).g,.refl p.cs⟩
 exact⟨rfl,rfl,hd,.inl ⟨rfl,rfl⟩⟩
theorem Alu {e:ε}(hj:jm e=.ret)(ho:h o=some (.blk g (.loop { r with state:=.busy })))(hs:St (.inr e) (upd h o (some (.blk g (.loop { r with state:=.done,pending:=some .ret }))))) :
  WR P f n ⟨false,some lo⟩ (Xi o g r St jm) (.ok (.inr e)) (.code .ret::k) fr [] h u:=by
 intro hV B mu w a cs p
 have hd:a.defers=[]:=p.ds
 refine⟨.returned (.bool true),w,cs,_,.ret (.bool true),h,mu,u,⟨_,rfl,ho,by rw [hj]; rfl,by rw [hj]; simp [jav],by rw [hj]; exact hs⟩,Steps.refl P _,rfl,rfl,?_,.bool true,p.sim,(Ext.refl _ _ _).g,.refl p.cs⟩
 exact⟨rfl,rfl,hd,.inr ⟨.ret,k,rfl,rfl,rfl⟩⟩
theorem Anw {m:R (σ ⊕ ε)}{todo:List Item}(hr:WR P f n ⟨false,some lo⟩ (Xi o g r St jm) m todo fr ds h u):WR P f n ⟨false,some lo⟩ (Xi o g r St jm) m.np todo fr ds h u:=by
 intro hV
 cases m with
 | ok s=>exact hr hV
 | pan v=>obtain⟨s,h⟩:=hV; cases h
 | bad=>obtain⟨s,h⟩:=hV; cases h
end
theorem Ah8 {y:YF}{o g:Nat}{r:Loop}{jm:ε→Code}{params:Array Tmp}{assign body:Code}{A:List AV}{b:σ→R (σ ⊕ ε)}(hlp:LpOk f n params assign body r)(hps:params.toList.all (fun p=>Nat.blt p n)=true)(hla:A.length=params.size)
  (hy : ∀ {mu:Mu} {w:World} {M:Nat→Prop} {lo:Nat},y.F w mu M lo → ∀ t,Rv w mu M (A0 l t) (r.tmps.getD t undef)) (hat : ∀ s h,St (.inl s) h→h o=some (.blk g (.loop r)))
  (hr : ∀ (lo:Nat) (s:σ) (h:Ag),St (.inl s) h→WR P f n ⟨false,some (lo,o,g)⟩ (Xi o g r St jm) (b s) [.code assign,.beginRound,.code body] (Tk (A0 l) params.toList A) [] h .ret):Ak4 P y o g A St b:=by
 intro s h hs x hb
 obtain⟨h1,h2,h3,h4,rfl,rfl,rfl⟩:=hlp
 refine Zy (f:=f) (n:=n) (fr:=A0 l) (hat s h hs) h1 h2 h3 h4 (fun p hp=>by have:=List.all_eq_true.1 hps p hp; simpa using this) (fun hF t=>hy hF t) hla fun lo=>?_
 refine Afm (hr lo s h hs ⟨x,hb⟩) fun a h' u' hq=>?_
 obtain⟨s2,e,hb1,hs2⟩:=hq
 rw [hb] at e; cases e
 cases x with
 | inl s'=>obtain⟨rfl,hs2⟩:=hs2; exact⟨hb1,.inl ⟨rfl,rfl,hs2⟩⟩
 | inr e=>obtain⟨rfl,hne,hs2⟩:=hs2; exact⟨hb1,.inr ⟨_,rfl,hne,rfl,hs2⟩⟩
section
variable {h0:Ag} {ids:List Nat} {xs:List (Option AO)} {N:Nat} {lo:Nat×Nat×Nat} {jL g:Nat} {r:Loop} {jm:ε→Code} {fr:Nat→AV}
theorem Ajd {s:σ}(hI:Ids h0 ids N)(hl:xs.length=N)(hj:Nat.blt jL N=true)(hx:xs[jL]? = some (some (.blk g (.loop { r with state:=.busy }))))(hs:St (.inl s) (hp h0 ids (xs.set jL (some (.blk g (.loop r)))))) :
  WR P f n ⟨false,some lo⟩ (Xi (ix ids jL) g r St jm) (.ok (.inl s)) [] fr [] (hp h0 ids xs) u:=Alv (hI.at hl hx) (by rw [hI.set hl hj]; exact hs)
theorem Akg {e:ε}(hjm:jm e=.ret)(hI:Ids h0 ids N)(hl:xs.length=N)(hj:Nat.blt jL N=true)(hx:xs[jL]? = some (some (.blk g (.loop { r with state:=.busy }))))(hs:St (.inr e) (hp h0 ids (xs.set jL (some (.blk g (.loop { r with state:=.done,pending:=some .ret })))))) :
  WR P f n ⟨false,some lo⟩ (Xi (ix ids jL) g r St jm) (.ok (.inr e)) (.code .ret::k) fr [] (hp h0 ids xs) u:=Alu hjm (hI.at hl hx) (by rw [hI.set hl hj]; exact hs)
end
theorem Ad6 {x:Operand}{params:Array Tmp}{assign body:Code}{gf:FuncId}{cap:List AV}{m:R (σ ⊕ ε)}{r1:σ→R γ}{r2:ε→R γ}{F:γ→R β}{h0:Ag}{ids:List Nat}{xs:List (Option AO)}{N:Nat}(jL:Nat)(jm:ε→Code)(St:Nat→Loop→σ ⊕ ε→Ag→Prop)
  (hro:d.ro=none) (hx:ev (A0 l) x=.func (.func gf) [] cap) (hI:Ids h0 ids N) (hl:xs.length=N) (hjL:Nat.blt jL N=true) (hxL:xs[jL]? = some none)
  (hgo : ∀ (gL:Nat) (y:YF) (r:Loop),LpOk f n params assign body r→(∀ {mu:Mu} {w:World} {M:Nat→Prop} {lo:Nat},y.F w mu M lo → ∀ t,Rv w mu M (A0 l t) (r.tmps.getD t undef)) →
   (m≠.bad→Bw P gf ([.yld y (ix ids jL) gL]++cap) (hp h0 ids (xs.set jL (some (.blk gL (.loop r))))) (Aae (St gL r) m)) ∧
   (∀ s h',St gL r (.inl s) h'→h' (ix ids jL)=some (.blk gL (.loop r))) ∧
   (∀ e h',St gL r (.inr e) h'→h' (ix ids jL)=some (.blk gL (.loop { r with state:=.done,pending:=some (jm e) }))) ∧
   (∀ s h',St gL r (.inl s) h'→WR P f n d Q ((r1 s).bind F) k (A0 l) (AD.star::ds) (upd h' (ix ids jL) none) u) ∧
   (∀ e h',St gL r (.inr e) h'→WR P f n d Q ((r2 e).bind F) (.code (jm e)::k) (A0 l) (AD.star::ds) (upd h' (ix ids jL) none) u) ∧
   (∀ v,m=.pan v → ∀ s h',St gL r s h'→WU P f n d Q (.pan v) (.pan v.av false) (A0 l) (AD.star::ds) (upd h' (ix ids jL) none) u)) :
  WR P f n d Q ((m.bind (G9 r1 r2)).bind F) (.code (.rangeFunc x params assign body)::k) (A0 l) (AD.star::ds) (hp h0 ids xs) u:=by
 rw [R.bind_assoc]
 intro hV
 refine Xs (ix ids jL) hro hx (hI.at hl hxL) fun gL y r hlp hyF=>?_
 obtain⟨c1,c2,c2',c3,c3',c4⟩:=hgo gL y r hlp hyF
 rw [hI.set hl hjL]
 have hmb:m≠.bad:=fun e=>by rw [e] at hV; exact Q.bad hV
 refine(c1 hmb).mono fun res h' hq=>?_
 cases hm:m with
 | bad=>exact absurd hm hmb
 | ok s=>
  rw [hm] at hq
  obtain⟨⟨v,rfl⟩,hs⟩:=hq
  rw [hm] at hV
  cases s with
  | inl s=>
   refine⟨r,c2 s h' hs,by rw [hlp.ready]; exact fun e=>(by cases e),?_⟩
   rw [hlp.pend]
   exact c3 s h' hs hV
  | inr e=>
   refine⟨_,c2' e h' hs,fun hh=>(by cases hh),?_⟩
   exact c3' e h' hs hV
 | pan v=>
  rw [hm] at hq
  obtain⟨rfl,s,hs⟩:=hq
  refine c4 v hm s h' hs ?_
  rw [hm] at hV; exact hV
end
end Go.Am
namespace Go.Am
@[reducible] def un9 {α β γ δ ε ζ η θ ι ω:Type}(f:α→β→γ→δ→ε→ζ→η→θ→ι→ω):α×β×γ×δ×ε×ζ×η×θ×ι→ω | (x0,x1,x2,x3,x4,x5,x6,x7,x8)=>f x0 x1 x2 x3 x4 x5 x6 x7 x8
@[simp] theorem Ao9 {α β γ δ ε ζ η θ ι ω:Type}(f:α→β→γ→δ→ε→ζ→η→θ→ι→ω)(x0:α)(x1:β)(x2:γ)(x3:δ)(x4:ε)(x5:ζ)(x6:η)(x7:θ)(x8:ι):un9 f (x0,x1,x2,x3,x4,x5,x6,x7,x8)=f x0 x1 x2 x3 x4 x5 x6 x7 x8:=rfl
end Go.Am
namespace Go.Am
open Go
set_option linter.unusedSimpArgs false
set_option linter.unusedVariables false
set_option linter.unusedSectionVars false
theorem Ac1 {P:Program}[GW P]{t:TypeId}{k k':IntKind}{a b c:Int}(hb:decide (0≤b)=true)(hc:2 ^ (min b.toNat k.bits)=c):Je P .shr t (.int k a) (.int k' b)=some (.int k (a.fdiv c)):=by
 have hb':0≤b:=by simpa using hb
 simp only [Je,if_pos hb',hc]
def Sl (l:List Int):List Int:=l.mergeSort fun x y=>decide (x≤y)
def Tz (l:List Int):R Unit:=if l.length≤C2 then .ok () else .bad
theorem Aep (l:List Int):(Sl l).length=l.length:=List.length_mergeSort _
theorem Bs.sort {v:AV}{o g:Nat}{L:List Int}(h:Bs v o g L.length):Bs v o g (Sl L).length:=by rw [Aep]; exact h
section
variable {P:Program} [GW P] {B:Base P} {h:Ag} {mu:Mu} {w:World}
theorem Ah2 (s:Sim B mu h w){o g:Nat}{L:List Int}(hx:h o=some (.rows g 1 (L.map (rI .i64)))){l:Loc}(hl:mu o g=some l):Sort.Holds (Value.int .i64) w l.b l.base L.toArray∧l.b<w.heap.size:=by
 obtain⟨l',cells,e,f,k1,k2,k3,k4,k5,k6,k7,k8,k9⟩:=s.obj hx
 rw [hl] at k1; cases k1
 have hsz:l.base+L.length≤l.size:=by simpa using k4
 refine⟨fun j hj=>?_,(s.muOk _ _ _ hl).2.1⟩
 have hj':j<L.length:=by simpa using hj
 obtain⟨x,hx1,hx2⟩:=k9 j 0 (by simpa using hj') (by omega)
 have e3:cell (L.map (rI .i64)) j 0=.int .i64 (L[j]):=by simp [cell,rI,List.getD,List.getElem?_eq_getElem hj']
 rw [e3] at hx2
 have:=Ani hx2
 subst this
 constructor
 ·unfold World.cell?
  rw [k6]
  have:cells[l.base+j]? = some (.int .i64 L[j]):=by simpa using hx1
  simp [this,hj']
 ·unfold World.frozen?
  rw [k6]
  have:=k8 (l.base+j) (by omega)
  cases hq:(decide (f.1≤l.base+j)&&decide (l.base+j<f.2)) with
  | false=>exact hq
  | true=>
   simp only [Bool.and_eq_true,decide_eq_true_eq] at hq
   exact absurd hq this
theorem All (s:Sim B mu h w){o g:Nat}{L L2:List Int}(hx:h o=some (.rows g 1 (L.map (rI .i64)))){l:Loc}(hl:mu o g=some l){M:List Int}(hM:M.length=L.length)(h2 : ∀ i (hi:i<L2.length),M[i]? = some L2[i]){w':World}
  (hw : ∃ n os,w'=Sort.grow (Sort.putRow (Value.int .i64) (Sort.ahead w n) l.b l.base M.toArray) os) :
  Sim B mu (upd h o (some (.rows g 1 (L2.map (rI .i64))))) w'∧Et h mu w (upd h o (some (.rows g 1 (L2.map (rI .i64))))) mu w':=by
 obtain⟨n,os,rfl⟩:=hw
 obtain⟨l',cells,e,f,k1,k2,k3,k4,k5,k6,k7,k8,k9⟩:=s.obj hx
 rw [hl] at k1; cases k1
 have hsz:l.base+L.length≤l.size:=by simpa using k4
 have hl2:L2.length≤M.length:=by
  rcases Nat.lt_or_ge M.length L2.length with hh | hh
  ·have:=h2 M.length hh
   rw [List.getElem?_eq_none (Nat.le_refl _)] at this; cases this
  ·exact hh
 have hb:l.b<w.heap.size:=(s.muOk _ _ _ hl).2.1
 have hput:=Sim.put (w':=Sort.putRow (Value.int .i64) (Sort.ahead w n) l.b l.base M.toArray) (rs':=L2.map (rI .i64)) (l':=l) (g':=g) (cells':=Sort.putCells (Value.int .i64) l.base M.toArray cells) (e:=e) (f:=f) s hx hl rfl rfl rfl
  (by simp [Sort.putRow,Sort.mapBlock,Sort.ahead])
  (fun b hbne=>by
   simp only [Sort.putRow,Sort.mapBlock,Sort.ahead,Array.getElem?_modify]
   rw [if_neg (fun hh=>hbne hh.symm)])
  (by
   simp only [Sort.putRow,Sort.mapBlock,Sort.ahead,Array.getElem?_modify,if_true,k6,Option.map_some]
   rfl)
  (by simp [Sort.putCells,k7]) k8 (.inl ⟨rfl,rfl⟩) rfl rfl k2
  (by rw [k3]; simp; omega)
  (by
   intro r hr
   rw [k3]
   obtain⟨x,_,rfl⟩:=List.mem_map.1 hr
   exact Hi x)
  (by
   intro i j hi hj
   rw [k3] at hj
   have hj0:j=0:=by omega
   subst hj0
   have hi':i<L2.length:=by simpa using hi
   have e3:cell (L2.map (rI .i64)) i 0=.int .i64 (L2[i]):=by simp [cell,rI,List.getD,List.getElem?_eq_getElem hi']
   refine⟨.int .i64 L2[i],?_,by rw [e3]; exact .int _ _⟩
   have hM1:=h2 i hi'
   have hc:l.base+i<cells.size:=by rw [k7]; omega
   rw [k3]
   have e4:(M.toArray)[l.base+i * 1+0 - l.base]! = L2[i]:=by
    rw [show l.base+i * 1+0 - l.base=i by omega]
    simp [hM1]
   unfold Sort.putCells
   rw [Array.getElem?_mapIdx,Array.getElem?_eq_getElem (by omega)]
   simp only [Option.map_some]
   rw [if_pos ⟨by omega,by simp; omega⟩,e4])
 rw [k3] at hput
 have e1:Dy mu o g l=mu:=by
  funext o1 g1
  unfold Dy
  split
  ·rename_i hh; obtain⟨rfl,rfl⟩:=hh; exact hl.symm
  ·rfl
 rw [e1] at hput
 obtain⟨q1,q2⟩:=Below.ext (w':=Sort.grow (Sort.putRow (Value.int .i64) (Sort.ahead w n) l.b l.base M.toArray) os) hput.1 ⟨rfl,rfl,rfl,by simp,fun i hi=>Sort.heap_grow_old _ _ hi⟩
 exact⟨q1,hput.2.trans q2⟩
theorem Am4 {v:AV}{o g n:Nat}(hv:Bs v o g n){c:Value}(hr:RV h mu w v c):(∃ a,v=.emp∧n=0∧c=.slice a 0 0) ∨ ∃ l cap,v=.ref o g 0 n∧mu o g=some l∧n≤C2∧n≤cap∧l.base+cap * l.st≤l.size∧c=.slice (some ⟨l.b,l.base,none⟩) n cap:=by
 rcases hv with⟨rfl,rfl⟩ | rfl
 ·cases hr with
  | emp a=>exact .inl ⟨a,rfl,rfl,rfl⟩
 ·cases hr with
  | ref _ _ _ _ cap l hl hc hcap hlim hsz=>
   refine .inr ⟨l,cap,rfl,hl,hlim,hcap,by simpa using hsz,by simp⟩
theorem Ais {sf:Nat}{L:List Int}{v:AV}{h0:Ag}{o g:Nat}(hI0:Ids h0 [o] 1)(hb:Sh P sf)(hv:Bs v o g L.length)
  (hs : ∀ (blk off cap:Nat) (zs:List Int) (w:World),Sort.Holds (Value.int .i64) w blk off zs.toArray→blk<w.heap.size→zs.length<4611686018427387904 →
   Calls P sf #[.slice (some ⟨blk,off,none⟩) zs.length cap] w fun e w'=>e=.returned (.tuple #[]) ∧ ∃ n os,w'=Sort.grow (Sort.putRow (Value.int .i64) (Sort.ahead w n) blk off (zs.mergeSort fun x y=>decide (x≤y)).toArray) os)
  (hn : ∀ (p:Option Addr) (cap:Nat) (w:World),Calls P sf #[.slice p 0 cap] w fun e w'=>e=.returned (.tuple #[])∧w'=w) :
  Tz L≠.bad→Bw P sf [v] (hp h0 [o] [Ba v g 1 (L.map (rI .i64))]) (Ec (fun _ v' h'=>v'=.tup []∧h'=hp h0 [o] [Ba v g 1 ((Sl L).map (rI .i64))]) h0 (Tz L)):=by
 intro hne
 unfold Tz at hne ⊢
 split at hne
 case isFalse=>exact absurd rfl hne
 rename_i hlim
 rw [if_pos hlim]
 refine⟨hb,fun B mu w cargs s ha=>?_⟩
 obtain⟨c,rfl,hc⟩:=Am5 ha
 rcases Am4 hv hc with⟨a,rfl,hn0,rfl⟩ | ⟨l,cap,rfl,hl,_,hcap,hsz,rfl⟩
 ·have hL:L=[]:=List.eq_nil_of_length_eq_zero hn0
  subst hL
  refine(hn a 0 w).mono ?_
  rintro e w' ⟨rfl,rfl⟩
  exact⟨.ret (.tup []),_,mu,⟨_,rfl,rfl,rfl⟩,s,Ext.refl _ _ _,.tup _ _ rfl fun i hi=>by simp at hi⟩
 ·have hx:hp h0 [o] [Ba (.ref o g 0 L.length) g 1 (L.map (rI .i64))] o=some (.rows g 1 (L.map (rI .i64))):=hI0.at (xs:=[_]) rfl (j:=0) rfl
  obtain⟨hH,hblk⟩:=Ah2 s hx hl
  refine(hs l.b l.base cap L w hH hblk (by simp only [C2] at hlim; omega)).mono ?_
  rintro e w' ⟨rfl,n,os,rfl⟩
  obtain⟨q1,q2⟩:=All s hx hl (L2:=Sl L) (M:=L.mergeSort fun x y=>decide (x≤y)) (List.length_mergeSort _) (fun i hi=>List.getElem?_eq_getElem hi) ⟨n,os,rfl⟩
  have e5:upd (hp h0 [o] [Ba (.ref o g 0 L.length) g 1 (L.map (rI .i64))]) o (some (.rows g 1 ((Sl L).map (rI .i64))))=hp h0 [o] [some (.rows g 1 ((Sl L).map (rI .i64)))]:=hI0.set rfl (j:=0) rfl
  rw [e5] at q1 q2
  exact⟨.ret (.tup []),_,mu,⟨_,rfl,rfl,rfl⟩,q1,q2,.tup _ _ rfl fun i hi=>by simp at hi⟩
def Qp (h:Ag)(mu:Mu)(w:World)(st:Nat)(rs:List (List AV))(cs:List Value):Prop:=cs.length=rs.length * st ∧ ∀ i j,i<rs.length→j<st→RV h mu w (cell rs i j) (cs.getD (i * st+j) undef)
theorem Aij {a b:List Value}{i:Nat}(h:i<a.length):(a++b).getD i undef=a.getD i undef:=by simp [List.getD,List.getElem?_append_left h]
theorem Ain {a b:List Value}{i:Nat}(h:a.length≤i):(a++b).getD i undef=b.getD (i - a.length) undef:=by simp [List.getD,List.getElem?_append_right h]
theorem Qp.app {st:Nat}{rs rs':List (List AV)}{cs cs':List Value}(h1:Qp h mu w st rs cs)(h2:Qp h mu w st rs' cs'):Qp h mu w st (rs++rs') (cs++cs'):=by
 refine⟨by rw [List.length_append,List.length_append,h1.1,h2.1,Nat.add_mul],fun i j hi hj=>?_⟩
 rw [Vs]
 split
 ·rename_i hl
  have:=Nd (st:=st) hl hj
  rw [Aij (by rw [h1.1]; exact this)]
  exact h1.2 i j hl hj
 ·rename_i hl
  have hle:rs.length * st≤i * st:=Nat.mul_le_mul_right _ (by omega)
  rw [Ain (by rw [h1.1]; omega),h1.1]
  have e:i * st+j - rs.length * st=(i - rs.length) * st+j:=by
   have:i * st=rs.length * st+(i - rs.length) * st:=by rw [← Nat.add_mul]; congr 1; omega
   omega
  rw [e]
  exact h2.2 _ _ (by rw [List.length_append] at hi; omega) hj
theorem Ai0 {rs:List (List AV)}{n i j:Nat}(h:i<n):cell (rs.take n) i j=cell rs i j:=by
 unfold cell; simp [List.getD,List.getElem?_take,h]
theorem Aj8 {rs:List (List AV)}{n i j:Nat}:cell (rs.drop n) i j=cell rs (n+i) j:=by
 unfold cell; simp [List.getD,List.getElem?_drop]
theorem Qp.take {st n:Nat}{rs:List (List AV)}{cs:List Value}(h1:Qp h mu w st rs cs)(hn:n≤rs.length):Qp h mu w st (rs.take n) (cs.take (n * st)):=by
 have hm:n * st≤rs.length * st:=Nat.mul_le_mul_right _ hn
 refine⟨by rw [List.length_take,List.length_take,h1.1,Nat.min_eq_left hm,Nat.min_eq_left hn],fun i j hi hj=>?_⟩
 rw [List.length_take] at hi
 have:=Nd (st:=st) (show i<n by omega) hj
 rw [Ai0 (by omega)]
 have e:(cs.take (n * st)).getD (i * st+j) undef=cs.getD (i * st+j) undef:=by simp [List.getD,List.getElem?_take,this]
 rw [e]
 exact h1.2 i j (by omega) hj
theorem Qp.drop {st n:Nat}{rs:List (List AV)}{cs:List Value}(h1:Qp h mu w st rs cs)(hn:n≤rs.length):Qp h mu w st (rs.drop n) (cs.drop (n * st)):=by
 refine⟨by rw [List.length_drop,List.length_drop,h1.1,Nat.sub_mul],fun i j hi hj=>?_⟩
 rw [List.length_drop] at hi
 rw [Aj8]
 have e:(cs.drop (n * st)).getD (i * st+j) undef=cs.getD ((n+i) * st+j) undef:=by
  simp only [List.getD,List.getElem?_drop]
  rw [show n * st+(i * st+j)=(n+i) * st+j by rw [Nat.add_mul]; omega]
 rw [e]
 exact h1.2 (n+i) j (by omega) hj
end
end Go.Am
namespace Go.Am
open Go
set_option linter.unusedVariables false
set_option linter.unusedSectionVars false
def Kf (k:IntKind)(a b:Int):Int:=k.wrap (BitVec.ofInt k.bits a &&& BitVec.ofInt k.bits b).toNat
def P6 (k:IntKind)(a b:Int):Int:=k.wrap (BitVec.ofInt k.bits a ||| BitVec.ofInt k.bits b).toNat
def O1 (k:IntKind)(a b:Int):Int:=k.wrap (BitVec.ofInt k.bits a ^^^ BitVec.ofInt k.bits b).toNat
def Hq (k:IntKind)(a b:Int):Int:=k.wrap (a * 2 ^ (min b.toNat k.bits))
theorem Ag5 {P:Program}[GW P]{t:TypeId}{k:IntKind}{a b:Int}:Je P .and t (.int k a) (.int k b)=some (.int k (Kf k a b)):=by simp [Je,Kf]
theorem Ajr {P:Program}[GW P]{t:TypeId}{k:IntKind}{a b:Int}:Je P .or t (.int k a) (.int k b)=some (.int k (P6 k a b)):=by simp [Je,P6]
theorem Ahl {P:Program}[GW P]{t:TypeId}{k:IntKind}{a b:Int}:Je P .xor t (.int k a) (.int k b)=some (.int k (O1 k a b)):=by simp [Je,O1]
theorem Aal {P:Program}[GW P]{t:TypeId}{k k':IntKind}{a b:Int}(hb:0≤b):Je P .shl t (.int k a) (.int k' b)=some (.int k (Hq k a b)):=by simp only [Je,if_pos hb,Hq]
end Go.Am
namespace Go.Am
open Go
set_option linter.unusedVariables false
set_option linter.unusedSectionVars false
end Go.Am
namespace Go.Am
open Go
set_option linter.unusedVariables false
set_option linter.unusedSectionVars false
structure FMapAt (w:World)(m g:Nat)(es:List (Vj×AV)):Prop where
 ex : ∃ (b:Nat) (ens:Array MapEntry) (clock:Nat) (es2:List (Vj×AV)),w.cell? ⟨g,0,none⟩=some (.map (some b))∧b<m∧w.heap[b]? = some (.map ens clock)∧es2.Perm es∧es2.length=ens.size ∧
  ∀ i,i<es2.length→(ens.getD i default).key=.string ⟨(es2.getD i ([],.und)).1.toArray⟩ ∧ ∃ k,(es2.getD i ([],.und)).2=.func (.func k) [] []∧(ens.getD i default).val=.func (.func k) #[] #[]
 nd:(es.map (·.1)).Nodup
theorem FMapAt.keep {w w':World}{m g:Nat}{es:List (Vj×AV)}(k:FMapAt w m g es)(hg:g<m)(e : ∀ b,b<m→w'.heap[b]? = w.heap[b]?):FMapAt w' m g es:=by
 obtain⟨⟨b,ens,clock,es2,h1,h2,h3,h4,h5,h6⟩,hnd⟩:=k
 exact⟨⟨b,ens,clock,es2,by rw [cell?_of_heap (w:=w) (a:=⟨g,0,none⟩) (e g hg)]; exact h1,h2,by rw [e b h2]; exact h3,h4,h5,h6⟩,hnd⟩
theorem FMapAt.rv {w:World}{m g:Nat}{es:List (Vj×AV)}(k:FMapAt w m g es)(hm:m≤w.heap.size){mu:Mu}{M:Nat→Prop}(hM : ∀ b,M b→m≤b) : ∃ x,w.cell? ⟨g,0,none⟩=some x∧Rv w mu M (.mapc es) x:=by
 obtain⟨⟨b,ens,clock,es2,h1,h2,h3,h4,h5,h6⟩,hnd⟩:=k
 refine⟨_,h1,.mapc es es2 h4 hnd b ens clock h3 h5 (fun i hi=>(h6 i hi).1) (fun i hi=>?_) (fun hb=>by have:=hM b hb; omega) (by omega)⟩
 obtain⟨_,k,e1,e2⟩:=h6 i hi
 rw [e1,e2]
 exact .func _ [] [] [] [] rfl rfl (fun i hi=>by simp at hi) (fun i hi=>by simp at hi)
open Go.ChangeShapes Go.WideShapes Go.WideElems
end Go.Am
namespace Go.Am
open Go
set_option linter.unusedVariables false
set_option linter.unusedSectionVars false
set_option linter.unusedSimpArgs false
abbrev AV.q (ids:List Nat)(j g:Nat):AV:=.ptr (ix ids j) g 0 0
abbrev AV.I (n:Int):AV:=.int .i64 n
abbrev Sc.I (n:Int):Sc:=.int .i64 n
section
variable (P:Program) [GW P]
def Ahb:Op→Bool
 | .move _=>true
 | .assign _=>true
 | .pick _ _ _=>true
 | .build _ _=>true
 | .nilCheck _=>true
 | .binOp _ _ _ _ _=>true
 | .unOp _ _ _=>true
 | .makeInterface _ _=>true
 | .makeFunc _ _ _=>true
 | .fieldAddr _ _ _=>true
 | .field _ _ _=>true
 | .typeAssert _ _ _ _=>true
 | .extract _ _=>true
 | _=>false
def Alt (xs:List (Option AO))(fr:Nat→AV)(j:Nat)(op:Op):Option (AV×Option (Nat×Nat×Nat)):=
 match op with
 | .load t a=>match ev fr a with
  | .ptr o g r c=>match ti P t,xs[j]? with
   | some T,some (some (.rows g' st rs))=>match rs[r]? with
    | some row=>(L9 row c T.size T.k.agg).map fun v=>(v,some (o,g,g'))
    | none=>none
   | _,_=>none
  | .cp row c=>match ti P t with
   | some T=>(L9 row c T.size T.k.agg).map fun v=>(v,none)
   | none=>none
  | _=>none
 | op=>if Ahb op then(D5 P fr hE op).map fun v=>(v,none) else none
def Ok (n:Nat)(all:List Oper)(xs:List (Option AO)):List Oper→List Nat→List (Nat×AV)→Option (List (Nat×AV)×List (Nat×Nat)×List (Nat×Nat))
 | [],_,l=>some (l,[],[])
 | o::ops,hs,l=>if F1 n o.dst then match Fl all (A0 l) o,o.dst with
   | some true,some t=>match Alt P xs (A0 l) (hs.headD 0) o.op with
    | some (v,none)=>Ok n all xs ops hs ((t,v)::l)
    | some (v,some (ob,g,g'))=>(Ok n all xs ops hs.tail ((t,v)::l)).map fun r=>(r.1,(ob,g)::r.2.1,(hs.headD 0,g')::r.2.2)
    | none=>none
   | some false,some t=>Ok n all xs ops hs ((t,.und)::l)
   | some false,none=>Ok n all xs ops hs l
   | _,_=>none
  else none
def Ahs (ops:List Oper)(ks:List Nat)(l:List (Nat×AV)):Bool:=ops.all fun o=>match o.dst with
 | none=>true
 | some t=>ks.contains t || !(l.any fun p=>Nat.beq t p.1)
end
section
variable {P:Program} [GW P] {f:FuncId} {n:Nat} {d:FK} {β γ:Type} {Q:Spec β} {m:R β} {ds:List AD} {h:Ag} {u:AU} {k:List Item} {l:List (Nat×AV)} {F:γ→R β}
variable {all:List Oper} {h0:Ag} {ids:List Nat} {xs:List (Option AO)} {N:Nat}
theorem Aa3 {fr:Nat→AV}{j:Nat}{op:Op}{v:AV}{q:Option (Nat×Nat×Nat)}(hI:Ids h0 ids N)(hl:xs.length=N)(hx:Alt P xs fr j op=some (v,q))(hq : ∀ o g g',q=some (o,g,g')→o=ix ids j∧g=g'):D5 P fr (hp h0 ids xs) op=some v:=by
 unfold Alt at hx
 split at hx
 ·rename_i t a
  show Of P _ t (ev fr a)=_
  split at hx
  ·rename_i o g r c ha
   rw [ha]
   split at hx
   ·rename_i T g' st rs hT hj
    split at hx
    ·rename_i row hr
     simp only [Option.map_eq_some_iff,Prod.mk.injEq] at hx
     obtain⟨v',h1,rfl,rfl⟩:=hx
     obtain⟨rfl,rfl⟩:=hq _ _ _ rfl
     exact Ah hI hl hj hr hT h1
    ·cases hx
   ·cases hx
  ·rename_i row c ha
   rw [ha]
   split at hx
   ·rename_i T hT
    simp only [Option.map_eq_some_iff,Prod.mk.injEq] at hx
    obtain⟨v',h1,rfl,rfl⟩:=hx
    exact Dd hT h1
   ·cases hx
  ·cases hx
 split at hx
 ·rename_i hp
  simp only [Option.map_eq_some_iff,Prod.mk.injEq] at hx
  obtain⟨v',h1,rfl,rfl⟩:=hx
  revert h1
  cases op <;> first
   | exact id
   | (simp [Ahb] at hp)
 ·cases hx
theorem Yj {rest:List Oper} : ∀ {ops:List Oper} {hs:List Nat} {l l':List (Nat×AV)} {A B:List (Nat×Nat)},Ok P n all xs ops hs l=some (l',A,B)→A=B.map (fun q=>(ix ids q.1,q.2))→Ids h0 ids N→xs.length=N →
  WO P f n d Q k all m rest (A0 l') ds (hp h0 ids xs) u→WO P f n d Q k all m (ops++rest) (A0 l) ds (hp h0 ids xs) u
 | [],hs,l,l',A,B,hx,hA,hI,hl,hk=>by
  simp only [Ok,Option.some.injEq,Prod.mk.injEq] at hx
  obtain⟨rfl,rfl,rfl⟩:=hx
  exact hk
 | o::ops,hs,l,l',A,B,hx,hA,hI,hl,hk=>by
  unfold Ok at hx
  split at hx
  ·rename_i hd
   split at hx
   ·rename_i t hw ht
    rw [ht] at hd
    have step : ∀ {v:AV},D5 P (A0 l) (hp h0 ids xs) o.op=some v→WO P f n d Q k all m (ops++rest) (A0 ((t,v)::l)) ds (hp h0 ids xs) u→WO P f n d Q k all m (o::ops++rest) (A0 l) ds (hp h0 ids xs) u:=by
     intro v hv hk'
     refine Ng (by rw [ht]; exact hd) hw fun hb K U hK hU=>Acu (t:=ds) hv (hK _ _ _ _ ?_)
     rw [ht,Ey]; exact hk'
    split at hx
    ·rename_i v hr
     exact step (Aa3 hI hl hr (fun _ _ _ h=>by cases h)) (Yj hx hA hI hl hk)
    ·rename_i v ob g g' hr
     simp only [Option.map_eq_some_iff,Prod.mk.injEq] at hx
     obtain⟨⟨l1,A1,B1⟩,hx,rfl,rfl,rfl⟩:=hx
     simp only [List.map_cons,List.cons.injEq,Prod.mk.injEq] at hA
     exact step (Aa3 hI hl hr (fun o2 g2 g2' h=>by cases h; exact hA.1)) (Yj hx hA.2 hI hl hk)
    ·cases hx
   ·rename_i t hw ht
    rw [ht] at hd
    exact Ag3 (by rw [ht]; exact hd) hw (by rw [ht,Ey]; exact Yj hx hA hI hl hk)
   ·rename_i hw ht
    exact Ag3 (by rw [ht]; rfl) hw (by rw [ht]; exact Yj hx hA hI hl hk)
   ·cases hx
  ·cases hx
theorem Wa {ops:List Oper}{ks:List Nat}{news:List (Nat×AV)} : ∀ {hs:List Nat} {l l':List (Nat×AV)} {A B:List (Nat×Nat)} {ops:List Oper},Ok P n all xs ops hs l=some (l',A,B) → ∀ t,(∀ o ∈ ops,o.dst≠some t)→A0 l' t=A0 l t
 | hs,l,l',A,B,[],hx,t,ho=>by
  simp only [Ok,Option.some.injEq,Prod.mk.injEq] at hx
  obtain⟨rfl,rfl,rfl⟩:=hx
  rfl
 | hs,l,l',A,B,o::ops,hx,t,ho=>by
  have ho' : ∀ o ∈ ops,o.dst≠some t:=fun q hq=>ho q (List.mem_cons_of_mem _ hq)
  have hne : ∀ {t':Nat} {v:AV},o.dst=some t'→A0 ((t',v)::l) t=A0 l t:=by
   intro t' v h
   have:t≠t':=fun e=>ho o (List.mem_cons_self ..) (e ▸ h)
   simp only [A0]
   have:Nat.beq t t'=false:=by
    cases hq:Nat.beq t t' with
    | false=>rfl
    | true=>exact absurd (Nat.eq_of_beq_eq_true hq) this
   rw [this]; rfl
  unfold Ok at hx
  split at hx
  ·split at hx
   ·rename_i t' hw ht
    split at hx
    ·rw [Wa (ks:=ks) (news:=news) (ops:=ops) hx t ho',hne ht]
    ·simp only [Option.map_eq_some_iff,Prod.mk.injEq] at hx
     obtain⟨⟨l1,A1,B1⟩,hx,rfl,rfl,rfl⟩:=hx
     rw [Wa (ks:=ks) (news:=news) (ops:=ops) hx t ho',hne ht]
    ·cases hx
   ·rename_i t' hw ht
    rw [Wa (ks:=ks) (news:=news) (ops:=ops) hx t ho',hne ht]
   ·exact Wa (ks:=ks) (news:=news) (ops:=ops) hx t ho'
   ·cases hx
  ·cases hx
theorem Aol {ops:List Oper}(K:Nat)(hs:List Nat)(news:List (Nat×AV))(hI:Ids h0 ids N)(hl:xs.length=N)
  (hc:(Ok P n all xs (ops.take K) hs l).map (fun r=>(news.map (fun p=>A0 r.1 p.1),r.2.1,Ahs (ops.take K) (news.map (·.1)) l))=some (news.map (·.2),((Ok P n all xs (ops.take K) hs l).elim [] fun r=>r.2.2.map fun q=>(ix ids q.1,q.2)),true))
  (hk:WO P f n d Q k all m (ops.drop K) (A0 (news++l)) ds (hp h0 ids xs) u):WO P f n d Q k all m ops (A0 l) ds (hp h0 ids xs) u:=by
 cases hr:Ok P n all xs (ops.take K) hs l with
 | none=>rw [hr] at hc; cases hc
 | some r=>
  obtain⟨l',A,B⟩:=r
  rw [hr] at hc
  simp only [Option.map_some,Option.elim_some,Option.some.injEq,Prod.mk.injEq] at hc
  obtain⟨h1,h2,h3⟩:=hc
  have:=Yj (rest:=ops.drop K) hr h2 hI hl (f:=f) (d:=d) (Q:=Q) (k:=k) (m:=m) (ds:=ds) (u:=u) (fun hb i hi=>Ql (fun t=>?_) (hk hb i hi))
  ·rwa [List.take_append_drop] at this
  ·
   have key : ∀ (ns:List (Nat×AV)),ns.map (fun p=>A0 l' p.1)=ns.map (·.2)→(∀ s,s ∈ ns.map (·.1)→s ∈ news.map (·.1))→(∀ s,s ∈ news.map (·.1)→s=t→s ∈ ns.map (·.1))→A0 (ns++l) t=.any∨A0 (ns++l) t=A0 l' t:=by
    intro ns
    induction ns with
    | nil=>
     intro _ _ hsub
     simp only [List.nil_append]
     by_cases hin:l.any (fun p=>Nat.beq t p.1)=true
     ·right
      symm
      refine Wa (ks:=[]) (news:=[]) (ops:=ops.take K) hr t fun o ho hd=>?_
      have:=List.all_eq_true.1 h3 o ho
      rw [hd] at this
      simp only [Bool.or_eq_true,Bool.not_eq_true',List.contains_iff_mem] at this
      rcases this with hc | hc
      ·exact absurd (hsub t hc rfl) (by simp)
      ·rw [hc] at hin; cases hin
     ·left
      have : ∀ l:List (Nat×AV),l.any (fun p=>Nat.beq t p.1)≠true→A0 l t=.any:=by
       intro l
       induction l with
       | nil=>intro _; rfl
       | cons p l ih=>
        intro hne
        simp only [List.any_cons] at hne
        simp only [A0]
        have h1:Nat.beq t p.1=false:=by cases hq:Nat.beq t p.1 with | false=>rfl | true=>exact absurd (by rw [hq]; rfl) hne
        rw [h1]
        exact ih (fun h=>hne (by rw [h,h1]; rfl))
      exact this l hin
    | cons p ns ih=>
     intro hv h4 h5
     simp only [List.map_cons,List.cons.injEq] at hv
     simp only [List.cons_append,A0]
     cases hq:Nat.beq t p.1 with
     | true=>
      right
      have:t=p.1:=Nat.eq_of_beq_eq_true hq
      subst this
      exact hv.1.symm
     | false=>
      refine ih hv.2 (fun s hs=>h4 s (by simp [hs])) (fun s hs e=>?_)
      rcases List.mem_cons.1 (h5 s hs e) with h | h
      ·subst e; rw [h] at hq; simp at hq
      ·exact h
   exact key news h1 (fun s hs=>hs) (fun s hs _=>hs)
theorem Al {ops:List Oper}(K:Nat)(hs:List Nat)(news:List (Nat×AV))(hk:WO P f n d Q k all m (ops.drop K) (A0 (news++l)) ds (hp h0 ids xs) u)(hI:Ids h0 ids N:=by assumption)(hl:xs.length=N:=by rfl)
  (hc:(Ok P n all xs (ops.take K) hs l).map (fun r=>(news.map (fun p=>A0 r.1 p.1),r.2.1,Ahs (ops.take K) (news.map (·.1)) l))=some (news.map (·.2),((Ok P n all xs (ops.take K) hs l).elim [] fun r=>r.2.2.map fun q=>(ix ids q.1,q.2)),true):=by kernel_rfl):WO P f n d Q k all m ops (A0 l) ds (hp h0 ids xs) u:=Aol K hs news hI hl hc hk
theorem Bi {ops:List Oper}{t:Nat}{b b':Bool}(hb:b=b')(ht:A0 l t=.bool b)(hk:WO P f n d Q k all m ops (A0 ((t,.bool b')::l)) ds h u):WO P f n d Q k all m ops (A0 l) ds h u:=by
 subst hb
 refine fun hV i hi=>Ql (fun s=>?_) (hk hV i hi)
 right
 simp only [A0]
 cases hq:Nat.beq s t with
 | true=>rw [Nat.eq_of_beq_eq_true hq,ht]; rfl
 | false=>rfl
theorem Dr {ops:List Oper}{fr:Nat→AV}(js:List Nat){zs ys:List (Option AO)}(hI:Ids h0 ids N)(hl:xs.length=N)(hk:Qt N js=true)(hz:js.length=zs.length)(hr:WO P f n d Q k all m ops fr ds (hp h0 ids ys) u)
  (e:Rg js zs xs=ys:=by first | (simp only [List.set_cons_zero,List.set_cons_succ,List.cons_append,List.nil_append,List.replicate_succ,List.replicate_zero,Rg,Ul,Tt,AV.cells,AV.I,AV.q]; rfl) | rfl):WO P f n d Q k all m ops fr ds (hp (hp h0 ids (Rz js xs)) (Wc ids js) zs) u:=Amt js ys hI hl hk hz e hr
theorem Bt {todo:List Item}{l':List (Nat×AV)}(hr:WR P f n d Q m todo (A0 l') ds h u)(hx:FrIs l l':=by repeat (first | exact .nil | refine .cons rfl ?_)):WR P f n d Q m todo (A0 l) ds h u:=Ha l' hx hr
theorem Br {ops:List Oper}{l':List (Nat×AV)}(hr:WO P f n d Q k all m ops (A0 l') ds h u)(hx:FrIs l l':=by repeat (first | exact .nil | refine .cons rfl ?_)):WO P f n d Q k all m ops (A0 l) ds h u:=C4 l' hx hr
theorem Ay {todo:List Item}{fr:Nat→AV}{ys:List (Option AO)}(hr:WR P f n d Q m todo fr ds (hp h0 ids ys) u)(e:xs=ys:=by first | (simp only [List.set_cons_zero,List.set_cons_succ,List.cons_append,List.nil_append,List.replicate_succ,List.replicate_zero,Rg,Ul,Tt,AV.cells,AV.I,AV.q]; rfl) | rfl) :
  WR P f n d Q m todo fr ds (hp h0 ids xs) u:=e ▸ hr
end
section
variable {P:Program} [GW P] {fr:Nat→AV} {h:Ag} {all:List Oper} {pre:List (List Nat)} {pend:O2} {ty:TypeId} {pos:String} {after:Array Edge} {i:Nat}
theorem Xh {j t jg tj:Nat}{want:Bool}{v:AV}{op:Op}(hj:(all[jg]?).bind (·.dst)=some tj)(ho:all[j]? = some ⟨some t,op,ty,pos,after,some (jg,want)⟩)(hg:fr tj=.bool want)(hv:D5 P fr h op=some v)(hr:G8 P all pre i h pend):G8 P all pre i h ((j,fr,v)::pend):=by
 refine⟨?_,hr⟩
 split
 ·trivial
 ·rw [ho]; simp only [aF,Ej hj hg,hv]
end
section
variable {P:Program} [GW P] {h:Ag} {all:List Oper} {pre:List (List Nat)} {pend:O2} {i:Nat} {a b c d e f g o:Nat} {fa fb fc fd fe ff fg fo:Nat→AV} {va vb vc vd ve vf vg vo:AV}
theorem A9 (hc:(cl pre i a&&cl pre i b)=true)(hr:G8 P all pre i h pend):G8 P all pre i h ((a,fa,va)::(b,fb,vb)::pend):=by
 rw [Bool.and_eq_true] at hc
 exact Au hc.1 (Au hc.2 hr)
theorem A7 (hc:((cl pre i a&&cl pre i b)&&(cl pre i c&&cl pre i d))=true)(hr:G8 P all pre i h pend):G8 P all pre i h ((a,fa,va)::(b,fb,vb)::(c,fc,vc)::(d,fd,vd)::pend):=by
 rw [Bool.and_eq_true] at hc
 exact A9 hc.1 (A9 hc.2 hr)
theorem A6 (hc:(((cl pre i a&&cl pre i b)&&(cl pre i c&&cl pre i d))&&((cl pre i e&&cl pre i f)&&(cl pre i g&&cl pre i o)))=true)(hr:G8 P all pre i h pend) :
  G8 P all pre i h ((a,fa,va)::(b,fb,vb)::(c,fc,vc)::(d,fd,vd)::(e,fe,ve)::(f,ff,vf)::(g,fg,vg)::(o,fo,vo)::pend):=by
 rw [Bool.and_eq_true] at hc
 exact A7 hc.1 (A7 hc.2 hr)
end
section
variable {P:Program} [GW P] {s ft:TypeId} {fs:List (Nat×TypeId)} {a b:Nat} {z:List AV} {F:TI}
theorem Ai {o g r:Nat}(c off i:Nat)(hT:ti P s=some ⟨.st fs,a,b,z⟩)(hf:fs[i]? = some (off,ft))(hF:ti P ft=some F)(h0:Nat.beq F.size 0=false):J9 P s (.ptr o g r c) i=some (.ptr o g r (c+off)):=An0 hT hf hF h0
end
theorem J {α:Sort _}{a:α}:a=a:=rfl
theorem FI {l l':List (Nat×AV)}(h:l'.map (fun p=>A0 l p.1)=l'.map (·.2)):FrIs l l':=by
 induction l' with
 | nil=>exact .nil
 | cons p r ih=>
  rw [List.map_cons,List.map_cons] at h
  injection h with h1 h2
  exact .cons h1 (ih h2)
end Go.Am
namespace Go.Am
open Go
set_option linter.unusedSimpArgs false
set_option linter.unusedVariables false
set_option linter.unusedSectionVars false
section
variable {P:Program} [GW P] {f:FuncId} {n:Nat} {d:FK} {β:Type} {Q:Spec β} {m:R β} {ds:List AD} {h:Ag} {u:AU} {k:List Item} {l:List (Nat×AV)} {all r:List Oper}
variable {h0:Ag} {ids:List Nat} {xs:List (Option AO)} {N:Nat} {ty:TypeId} {pos:String} {after:Array Edge}
theorem Aly {e:TypeId}{x:Operand}{v:AV}{j o g' n':Nat}{fr:Nat→AV}{K:AV→Ag→Prop}(hv:Bs v o g' n')(hI:Ids h0 ids N)(hl:xs.length=N)(hjn:Nat.blt j N=true)(hj:xs[j]? = some none)(hx:ev fr x=v)
  (hk : ∀ g,K (.ptr (ix ids j) g 0 0) (hp h0 ids (xs.set j (some (.rows g 1 [[v]]))))):F5 P fr (hp h0 ids xs) (.box e x) K:=by
 refine Am3 (v:=v) hI hl hjn hj hx hv.ok (by rw [hv.cells]; simp [hv.flat]) fun g=>?_
 rw [hv.cells]
 exact hk g
theorem Amq {t:Nat}{e:TypeId}{x:Operand}{v:AV}{j o g' n':Nat}(hv:Bs v o g' n')(hI:Ids h0 ids N)(hl:xs.length=N)(hjn:Nat.blt j N=true)(hj:xs[j]? = some none)(ht:Nat.blt t n=true)(hx:ev (A0 l) x=v)
  (hk : ∀ g,WO P f n d Q k all m r (A0 ((t,.ptr (ix ids j) g 0 0)::l)) ds (hp h0 ids (xs.set j (some (.rows g 1 [[v]])))) u) :
  WO P f n d Q k all m (⟨some t,.box e x,ty,pos,after,none⟩::r) (A0 l) ds (hp h0 ids xs) u:=
 Vl ht (fun _ _=>rfl) fun K hK=>Aly hv hI hl hjn hj hx fun g=>hK _ _ (hk g)
end
theorem Abg {P:Program}[GW P]{g:FuncId}{γ:Type}{A:List AV}{u u':AU}{h0:Ag}{ids:List Nat}{N:Nat}{Hc:R γ}{ys zs:List (Option AO)}{cells:γ→List (Option AO)}(c1 c2:Nat)(hI:Ids h0 ids N)(hc:Nat.ble (c1+c2) N=true)(hy:ys.length=c1)(hz:zs.length=c2)(hcl : ∀ x,(cells x).length=c1)
  (h:Ids (hp h0 ((ids.drop c1).take c2) zs) (ids.take c1) c1→(∃ a,Hc=.ok a)→J1 P g A u (hp (hp h0 ((ids.drop c1).take c2) zs) (ids.take c1) ys) (R6 (fun x=>hp (hp h0 ((ids.drop c1).take c2) zs) (ids.take c1) (cells x)) u' Hc)) :
  (∃ a,Hc=.ok a)→J1 P g A u (hp h0 (ids.take (c1+c2)) (ys++zs)) (R6 (fun x=>hp h0 (ids.take (c1+c2)) (cells x++zs)) u' Hc):=by
 intro hx
 have hc':c1+c2≤N:=by simpa using hc
 have e:ids.take (c1+c2)=ids.take c1++(ids.drop c1).take c2:=List.take_add
 have hl1:(ids.take c1).length=c1:=by rw [List.length_take,hI.len]; omega
 have hn:=hI.nodup.sublist (List.take_sublist (c1+c2) ids)
 rw [e] at hn
 have hI1:Ids (hp h0 ((ids.drop c1).take c2) zs) (ids.take c1) c1:=by
  refine⟨(List.nodup_append.1 hn).1,fun o ho=>?_,hl1⟩
  rw [Rh fun hm=>(List.nodup_append.1 hn).2.2 o ho o hm rfl]
  exact hI.fresh o (List.mem_of_mem_take ho)
 have:=h hI1 hx
 rw [e,Sw (by rw [hl1,hy])]
 have e2:(fun x=>hp h0 (ids.take c1++(ids.drop c1).take c2) (cells x++zs))=fun x=>hp (hp h0 ((ids.drop c1).take c2) zs) (ids.take c1) (cells x):=by
  funext x
  rw [Sw (by rw [hl1,hcl])]
 rw [e2]
 exact this
end Go.Am
namespace Go.Am
open Go
@[irreducible] def Jv:Nat:=4000000
theorem Ah3 (S:Vj):(Cx S).map (rI .u8)=S.map fun b=>[.int .u8 (b.toNat:Int)]:=by
 simp only [Cx,List.map_map]
 rfl
theorem Ac7 {P:Program}[GW P]{h:Ag}{S:Vj}{n:Nat}{b:Bool}(hn:n=1)(hb:b=true):Ow P h n b (.str S)=some ((Cx S).map (rI .u8)):=by
 subst hn; subst hb
 rw [Ah3]
 rfl
section
set_option linter.unusedVariables false
set_option linter.unusedSectionVars false
variable {P:Program} [GW P] {f:FuncId} {n:Nat} {d:FK} {fr:Nat→AV} {ds:List AD} {h:Ag} {u:AU} {Q:QT} {k:List Item}
theorem Acw {ops:Array Oper}{i:Nat}{rest':List Nat}{t1 t2:Nat}{sT et:TypeId}{c:Nat}{ps:List (Nat×Operand)}{ty1 ty2:TypeId}{pos1 pos2:String}{af1 af2:Array Edge}{a1 b1:Nat}{z1:List AV}{E:TI}{rows rows':List (List AV)}
  (h1:ops[i]? = some ⟨some t1,.buildSlice sT c ⟨ps⟩,ty1,pos1,af1,none⟩) (h2:ops[i+1]? = some ⟨some t2,.convert sT sT (.tmp t1),ty2,pos2,af2,none⟩) (ht1:t1<n) (ht2:t2<n)
  (hS:ti P sT=some ⟨.sl et,a1,b1,z1⟩) (hE:ti P et=some E) (hk:E.k=.int .u8) (hc:c≠0) (hsz:0<E.size) (hlim:c * E.size≤2 ^ 24) (hz:E.z.all AV.flat=true)
  (hf:Lu E.size (List.replicate c E.z) (N3 fr ps)=some rows) (hsim:RowsSim E.size rows rows')
  (hr:E5 P f n d (.inRegion ops rest'::k) (G1 (G1 fr (some t1) .any) (some t2) (.sl E.size rows')) ds h u Q):E5 P f n d (.inRegion ops (i::(i+1)::rest')::k) fr ds h u Q:=by
 intro B mu w a cs p
 have s:=p.sim
 obtain⟨p1,p2⟩:=Yo p.fr ps
 obtain⟨dS,hdS,hkS⟩:=F2 hS
 have:=Jd hkS; subst this
 obtain⟨dE,hdE,hkE⟩:=F2 hE
 have:=Qj (hk ▸ hkE); subst this
 obtain⟨dd,ii,z,e1,e2,e3,e4,e5,e6,e7,e8,_⟩:=Mh hE
 obtain⟨arr,f1,⟨r1,r2,r3⟩,f3⟩:=R8 (N3 fr ps) _ _ _ p1 p2 (W6 (i:=ii) e4 e5 hz c) hf
 rw [List.length_replicate] at f3
 have hrun:(Instr.buildSlice sT c (ps.map fun p=>(p.1,a.eval p.2)).toArray).run P w=.ok (.slice (some ⟨w.heap.size,0,none⟩) c c) (w.alloc (.cells arr et)):=by
  have f1':=f1
  have hlim':=hlim
  have hsz':=hsz
  rw [e7] at f1' hlim' hsz'
  exact run_buildSlice w sT et c _ arr ii z hdS e2 e3 (by omega) (by
   intro hq
   rcases Nat.mul_eq_zero.1 hq with hq | hq <;> omega) (by simpa using f1')
 have g1:(execOp a.eval ⟨some t1,.buildSlice sT c ⟨ps⟩,ty1,pos1,af1,none⟩).run P w=.ok (.value (.slice (some ⟨w.heap.size,0,none⟩) c c)) (w.alloc (.cells arr et)):=by
  simp only [execOp]
  have:(Array.map (fun p=>(p.1,a.eval p.2)) (⟨ps⟩:Array (Nat×Operand)))=(ps.map fun p=>(p.1,a.eval p.2)).toArray:=by simp
  simp [this,hrun]
 have hcv:=Lib.run_convert_bytes_const (P:=P) w sT et arr c c hdS hdE
 have hev:(a.put (some t1) (.slice (some ⟨w.heap.size,0,none⟩) c c)).eval (.tmp t1)=.slice (some ⟨w.heap.size,0,none⟩) c c:=by
  simp [Act.put,Act.eval,p.size,ht1]
 have g2:(execOp (a.put (some t1) (.slice (some ⟨w.heap.size,0,none⟩) c c)).eval ⟨some t2,.convert sT sT (.tmp t1),ty2,pos2,af2,none⟩).run P (w.alloc (.cells arr et))=.ok (.value (.slice (some ⟨w.heap.size,0,none⟩) c c)) (w.alloc (.cells arr et (arr.size,arr.size+1))):=by
  simp only [execOp,hev]
  simp [hcv]
 rw [← Oper.semAt_eq (b0 f d).roundOf _ _ (fun c hc=>by cases hc)] at g1
 rw [← Oper.semAt_eq (b0 f d).roundOf _ _ (fun c hc=>by cases hc)] at g2
 have st1:=Aag (b:=b0 f d) (a:=a) (rest:=(i+1)::rest') (k:=k) (cs:=cs) h1 rfl g1
 have st2:=Aag (b:=b0 f d) (a:=a.put (some t1) (.slice (some ⟨w.heap.size,0,none⟩) c c)) (rest:=rest') (k:=k) (cs:=cs) h2 rfl g2
 have hj:=s.junk (.cells arr et (arr.size,arr.size+1))
 have hLIM:c≤C2:=by have:=Nat.le_mul_of_pos_right c hsz; unfold C2; omega
 have hlen':rows'.length=c:=hsim.len.trans f3
 have hv:RV h mu (w.alloc (.cells arr et (arr.size,arr.size+1))) (.sl E.size rows') (.slice (some ⟨w.heap.size,0,none⟩) c c):=by
  have key : ∃ vs:Nat→Nat→Value,∀ i j,i<rows'.length→j<E.size→(w.alloc (.cells arr et (arr.size,arr.size+1))).cell? ⟨w.heap.size,0+i * E.size+j,none⟩=some (vs i j)∧RV h mu (w.alloc (.cells arr et (arr.size,arr.size+1))) (cell rows' i j) (vs i j):=by
   refine⟨fun i j=>((w.alloc (.cells arr et (arr.size,arr.size+1))).cell? ⟨w.heap.size,0+i * E.size+j,none⟩).getD undef,fun i j hi hj'=>?_⟩
   obtain⟨c',hc1,hc2⟩:=r3 i j (by rw [f3,← hlen']; exact hi) hj'
   have hx:(w.alloc (.cells arr et (arr.size,arr.size+1))).cell? ⟨w.heap.size,0+i * E.size+j,none⟩=some c':=by
    unfold World.cell?
    rw [Lv,Nat.zero_add]; simpa using hc1
   have hg:((w.alloc (.cells arr et (arr.size,arr.size+1))).cell? ⟨w.heap.size,0+i * E.size+j,none⟩).getD undef=c':=by rw [hx]; rfl
   refine⟨by show _=some (((w.alloc (.cells arr et (arr.size,arr.size+1))).cell? ⟨w.heap.size,0+i * E.size+j,none⟩).getD undef); rw [hg]; exact hx,?_⟩
   show RV h mu _ _ (((w.alloc (.cells arr et (arr.size,arr.size+1))).cell? ⟨w.heap.size,0+i * E.size+j,none⟩).getD undef)
   rw [hg]
   exact(hsim.cells i j (by rw [f3,← hlen']; exact hi) hj').rv (hc2.ext hj.2)
  obtain⟨vs,hvs⟩:=key
  have:=Rv.sl (w:=w.alloc (.cells arr et (arr.size,arr.size+1))) (mu:=mu) (M:=Do h mu) E.size rows' w.heap.size 0 c vs (by omega) (by omega) (fun i j hi hj=>(hvs i j hi hj).1) (fun i j hi hj=>(hvs i j hi hj).2) hsim.ok (fun hm=>by have:=Do.lt s hm; omega) (by rw [E2]; omega)
  rw [hlen'] at this
  exact this
 have q:=p.ext hj.2 hj.1
 have q1:=q.put (dst:=some t1) (by simpa [F1] using ht1) (v:=.any) (c:=.slice (some ⟨w.heap.size,0,none⟩) c c) (.any _)
 have q2:=q1.put (dst:=some t2) (by simpa [F1] using ht2) hv
 exact .ext hj.2 (.head st1 (.head st2 (hr B mu _ _ cs q2)))
end
section
variable {P:Program} [GW P] {f:FuncId} {n:Nat} {d:FK} {α β:Type} {Q:Spec β} {m:R β} {ds:List AD} {h:Ag} {u:AU} {k:List Item} {l:List (Nat×AV)} {all r:List Oper}
theorem Xq {L:List Int}{t1 t2:Nat}{sT et:TypeId}{c:Nat}{ps:List (Nat×Operand)}{ty1 ty2:TypeId}{pos1 pos2:String}{af1 af2:Array Edge}{a1 b1:Nat}{z1:List AV}{E:TI}{rows:List (List AV)}
  (ht1:Nat.blt t1 n=true) (ht2:Nat.blt t2 n=true) (hS:ti P sT=some ⟨.sl et,a1,b1,z1⟩) (hE:ti P et=some E) (hk:E.k=.int .u8) (hst:E.size=1)
  (hc:Nat.beq c 0=false) (hlim:Nat.ble c 16777216=true) (hz:E.z.all AV.flat=true) (hf:Lu E.size (List.replicate c E.z) (N3 (A0 l) ps)=some rows) (hsim:RowsSimL rows (L.map (rI .u8))) (hrl:rows.all (fun r=>Nat.beq r.length 1)=true)
  (hr:WO P f n d Q k all m r (A0 ((t2,.sl 1 (L.map (rI .u8)))::(t1,.any)::l)) ds h u):WO P f n d Q k all m (⟨some t1,.buildSlice sT c ⟨ps⟩,ty1,pos1,af1,none⟩::⟨some t2,.convert sT sT (.tmp t1),ty2,pos2,af2,none⟩::r) (A0 l) ds h u:=by
 intro hb i hi
 have h1:(⟨all⟩:Array Oper)[i]? = some ⟨some t1,.buildSlice sT c ⟨ps⟩,ty1,pos1,af1,none⟩:=by simpa using hi 0
 have h2:(⟨all⟩:Array Oper)[i+1]? = some ⟨some t2,.convert sT sT (.tmp t1),ty2,pos2,af2,none⟩:=by simpa using hi 1
 have hi' : ∀ j,all[i+1+1+j]? = r[j]? := fun j=>by have:=hi (j+2); rw [show i+(j+2)=i+1+1+j by omega] at this; simpa using this
 simp only [List.length_cons,List.range'_succ]
 have hc':c≠0:=fun q=>by rw [q] at hc; cases hc
 refine Acw (rows':=L.map (rI .u8)) h1 h2 (by simpa using ht1) (by simpa using ht2) hS hE hk hc' (by omega) (by rw [hst]; simpa using hlim) hz hf ?_ ?_
 ·exact hst ▸ hsim.sim (fun x=>Hi x) fun r hr'=>by simpa using List.all_eq_true.1 hrl r hr'
 ·rw [Ey,Ey,hst]
  exact hr hb (i+1+1) hi'
end
section
variable {P:Program} [GW P] {h:Ag} {α:Type} {e e':α→List AV} {L:List α} {x:α} {t et:TypeId} {a b st:Nat} {z:List AV} {E:TI} {k:IntKind}
theorem Dn {i:Int}(he : ∀ x,e x=e' x)(hT:ti P t=some ⟨.sl et,a,b,z⟩)(hE:ti P et=some E)(hs:st=E.size)(h0:0≤i)(hx:L[i.toNat]? = some x):Gi P h t (.sl st (L.map e)) (.int k i)=some (.cp (e' x) 0):=
 he x ▸ Ik hT hE hs h0 hx
theorem Qv {i:Nat}(he : ∀ x,e x=e' x)(hT:ti P t=some ⟨.sl et,a,b,z⟩)(hE:ti P et=some E)(hs:st=E.size)(hx:L[i]? = some x):Gi P h t (.sl st (L.map e)) (.int k (i:Int))=some (.cp (e' x) 0):=
 he x ▸ Nv hT hE hs hx
end
section
set_option linter.unusedVariables false
set_option linter.unusedSectionVars false
variable {P:Program} [GW P] {f:FuncId} {n:Nat} {d:FK} {α β:Type} {Q:Spec β} {m:R β} {ds:List AD} {h:Ag} {u:AU} {k:List Item} {l:List (Nat×AV)} {all r:List Oper}
theorem Amz {t et:TypeId}{a b st:Nat}{z:List AV}{E:TI}{L:List α}{e:α→List AV}{k k':IntKind}{i:Int}(hT:ti P t=some ⟨.sl et,a,b,z⟩)(hE:ti P et=some E)(hs:st=E.size)(hc:0≤i∧i≤(L.length:Int))(hp:i≠0) :
  Ke P h t (.sl st (L.map e)) none (some (.int k i)) (some (.int k' i))=some (.sl st ((L.take i.toNat).map e)):=by
 unfold Ke
 simp only [hT,hE]
 split
 ·rename_i q1 q2; cases q1; cases q2; exact absurd rfl hp
 ·rename_i q0 q1 q2; cases q0
 ·rename_i q0 q1 q2 _ _
  cases q1; cases q2
  cases q0
  rw [if_pos ⟨hs,hc.1,Int.le_refl _,by simpa using hc.2⟩]
  simp only [Hm,List.drop_zero,Nat.sub_zero,List.map_take]
 ·rename_i q _ _
  exact(q _ _ _ _ _ rfl rfl rfl).elim
theorem Alo {t et:TypeId}{a b st:Nat}{z:List AV}{E:TI}{rows:List (List AV)}{k k':IntKind}(hT:ti P t=some ⟨.sl et,a,b,z⟩)(hE:ti P et=some E) :
  Ke P h t (.sl st rows) none (some (.int k 0)) (some (.int k' 0))=some .emp:=by
 simp only [Ke,hT,hE]
theorem Akn {t:Nat}{T et ty:TypeId}{pos:String}{after:Array Edge}{a b st:Nat}{z:List AV}{E:TI}{L:List α}{e:α→List AV}{k1 k2:IntKind}{i:Int}{x hi mx:Operand}
  (ht:Nat.blt t n=true) (hx:ev (A0 l) x=.sl st (L.map e)) (hh:ev (A0 l) hi=.int k1 i) (hm:ev (A0 l) mx=.int k2 i) (hT:ti P T=some ⟨.sl et,a,b,z⟩) (hE:ti P et=some E) (hs:st=E.size) (hc:0≤i∧i≤(L.length:Int))
  (hk:WO P f n d Q k all m r (A0 ((t,.sl st ((L.take i.toNat).map e))::l)) ds h u):WO P f n d Q k all m (⟨some t,.slice T x none (some hi) (some mx),ty,pos,after,none⟩::r) (A0 l) ds h u:=by
 by_cases hp:i=0
 ·subst hp
  refine Ac .emp ht ?_ ?_
  ·show Ke P h T (ev (A0 l) x) none (some (ev (A0 l) hi)) (some (ev (A0 l) mx))=_
   rw [hx,hh,hm]
   exact Alo hT hE
  ·intro hb i hi'
   refine Abd (Sub.refl _) (fun s=>?_) rfl rfl (hk hb i hi')
   simp only [A0]
   cases hq:Nat.beq s t with
   | true=>exact .emp _
   | false=>exact .same _
 ·refine Ac _ ht ?_ hk
  show Ke P h T (ev (A0 l) x) none (some (ev (A0 l) hi)) (some (ev (A0 l) mx))=_
  rw [hx,hh,hm]
  exact Amz hT hE hs hc hp
end
theorem Me:Jv=4000000:=by unfold Jv; rfl
end Go.Am
namespace Go.Am
open Go
set_option maxRecDepth 100000
set_option maxHeartbeats 4000000
set_option linter.unusedSimpArgs false
set_option linter.unusedVariables false
structure Record where
 Term:Int
 Data:(List Int)
 deriving DecidableEq
def Ak (x:Record):List AV:=[(.int .i64 x.Term),(.sl 1 (List.map (rI .u8) x.Data))]
theorem Mt (x:Record):Es 2 (Ak x):=R2 rfl rfl
structure Message where
 Kind:Int
 From:Int
 To:Int
 Term:Int
 Last:Int
 LastTerm:Int
 Log:(List Record)
 Commit:Int
 Match:Int
 Granted:Bool
 deriving DecidableEq
def An (x:Message):List AV:=[(.int .i64 x.Kind),(.int .i64 x.From),(.int .i64 x.To),(.int .i64 x.Term),(.int .i64 x.Last),(.int .i64 x.LastTerm),(.sl 2 (List.map Ak x.Log)),(.int .i64 x.Commit),(.int .i64 x.Match),(.bool x.Granted)]
theorem Iw (x:Message):Es 10 (An x):=R2 rfl rfl
structure T44 where
 Kind:Int
 At:Int
 Data:Int
 deriving DecidableEq
structure Replica where
 ID:Int
 Many:Int
 Term:Int
 Vote:Int
 Log:(List Record)
 Role:Int
 Commit:Int
 Votes:(List Bool)
 Match:(List Int)
 deriving DecidableEq
def A3 (x:Replica):List AV:=[(.int .i64 x.ID),(.int .i64 x.Many),(.int .i64 x.Term),(.int .i64 x.Vote),(.sl 2 (List.map Ak x.Log)),(.int .i64 x.Role),(.int .i64 x.Commit),(.sl 1 (List.map rB x.Votes)),(.sl 1 (List.map (rI .i64) x.Match))]
structure T38 where
 fReplicas:(List Replica)
 fSent:(List Message)
 deriving DecidableEq
structure Value where
 Kind:Int
 N:Int
 S:Vj
 L:(List Value)
mutual
def rValueA:Value→List AV
 | ⟨Kind_,N_,S_,L_⟩=>[(.int .i64 Kind_),(.int .i64 N_),(.str S_),(.sl 4 (rValueAs L_))]
def rValueAs:List Value→List (List AV)
 | []=>[]
 | a::l=>rValueA a::rValueAs l
end
theorem Z1 : ∀ l:List Value,rValueAs l=l.map rValueA
 | []=>by rw [rValueAs]; rfl
 | a::l=>by rw [rValueAs,List.map_cons,Z1 l]
def Aw (x:Value):List AV:=[(.int .i64 x.Kind),(.int .i64 x.N),(.str x.S),(.sl 4 (List.map rValueA x.L))]
theorem B6 (x:Value):rValueA x=Aw x:=by
 cases x
 rw [rValueA]
 simp only [Z1]
 rfl
theorem E0 {w:List AV}{x:Value}(h:RowSim w (Aw x)):RowSim w (rValueA x):=(B6 x).symm ▸ h
theorem Kx (x:Value):Es 4 (rValueA x):=by rw [B6]; exact R2 rfl rfl
def zeroValue:Value:={ Kind:=0,N:=0,S:=[],L:=[] }
structure T87 where
 Replica:Replica
 fSent:(List Message)
 deriving DecidableEq
def W0 (x:T87):List AV:=[(.int .i64 x.Replica.ID),(.int .i64 x.Replica.Many),(.int .i64 x.Replica.Term),(.int .i64 x.Replica.Vote),(.sl 2 (List.map Ak x.Replica.Log)),(.int .i64 x.Replica.Role),(.int .i64 x.Replica.Commit),(.sl 1 (List.map rB x.Replica.Votes)),(.sl 1 (List.map (rI .i64) x.Replica.Match)),(.sl 10 (List.map An x.fSent))]
structure T104 where
 fE:Int
 deriving DecidableEq
def Abk (x:T104):List AV:=[(.int .i64 x.fE)]
structure T107 where
 fRest:(List Int)
 deriving DecidableEq
def Jp (x:T107):List AV:=[(.sl 1 (List.map (rI .u8) x.fRest))]
structure T111 where
 B:(List Int)
 At:Int
 Bad:Bool
 deriving DecidableEq
def G2 (x:T111):List AV:=[(.sl 1 (List.map (rI .u8) x.B)),(.int .i64 x.At),(.bool x.Bad)]
end Go.Am
namespace Go.Am
open Go
set_option maxRecDepth 100000
set_option maxHeartbeats 4000000
set_option linter.unusedSimpArgs false
set_option linter.unusedVariables false
noncomputable section
def Bv (n:Int)(lo:Int)(hi:Int):R Bool:=
 .ok ((decide (lo≤n))&&(decide (n≤hi)))
def Nz (rID:Int)(rMany:Int)(rTerm:Int)(rVote:Int)(rRole:Int)(rCommit:Int):R Unit:=
 .ok ()
def L7 (l:List Bool)(l1:List Int):R ((List Bool)×(List Int)):=
 .ok (l,l1)
def Jx (n:Int):R ((List Bool)×(List Int)):=
 if(0:Int)≤n∧(n:Int)≤n∧(Int.toNat n) * 1≤C2 then
 if(0:Int)≤n∧(n:Int)≤n∧(Int.toNat n) * 8≤C2 then
 L7 (List.replicate (Int.toNat n) false) (List.replicate (Int.toNat n) (0:Int)) else .bad else .bad
def Jk (s_ReplicaID:Int)(s_ReplicaMany:Int)(s_ReplicaTerm:Int)(s_ReplicaVote:Int)(s_ReplicaRole:Int)(s_ReplicaCommit:Int):R ((List Bool)×(List Int)):=
 (Bv s_ReplicaMany 0 5).bind fun r=>
 if r then
(Jx s_ReplicaMany)
else
(Jx 0)
def Ld (id:Int)(many:Int):R (Replica×Int):=
 (Bv many 1 5).bind fun r=>
 (if(!r) then R.ok true else(Bv id 0 (IntKind.wrap .i64 (many - 1))).bind fun r1=>
 R.ok (!r1)).bind (fun(b:Bool)=>if b then
(.ok (({ ID:=0,Many:=0,Term:=0,Vote:=0,Log:=[],Role:=0,Commit:=0,Votes:=[],Match:=[] }:Replica),470))
else
((Nz id many 0 (-1) 0 0).bind fun _=>
 (Jk id many 0 (-1) 0 0).bind fun r2=>
 .ok (({ ID:=id,Many:=many,Term:=0,Vote:=(-1),Log:=[],Role:=0,Commit:=0,Votes:=r2.1,Match:=r2.2 }:Replica),0)))
def Bm (ok:Bool)(e:Int):R Unit:=
 if ok then
(.ok ())
else
(.pan ⟨105,.one .i64 e⟩)
def Mp (x1:Bool):R (Unit ⊕ Bool):=
 if x1 then
(.ok (.inr (false)))
else
(.ok (.inl ()))
def O9 (l:List Record)(term:Int)(j:Nat)(a:Record):R (Unit ⊕ Bool):=
 (Bv a.Term 1 term).bind fun r=>
 if(!r) then
(Mp true)
else
(if(decide ((j:Int) > 0)) then
((Cd l (IntKind.wrap .i64 ((j:Int) - 1))).bind fun a1=>
 Mp (decide (a1.Term > a.Term)))
else
(Mp false))
def Hs (l:List Record)(term:Int):R Bool:=
 (each (fun j a=>fun _=>O9 l term j a) 0 l ()).bind (G9 (fun _=>.ok true) (fun r=>.ok r))
def Iy:R Unit:=
 .ok ()
def Ex (p:T104):R Unit:=
 .ok ()
def Fi (n:Int):R Int:=
 (Ex ({ fE:=n }:T104)).bind fun _=>
 .ok (({ fE:=n }:T104).fE)
def Gy (r:Replica)(j:Nat)(a:Int):R Unit:=
 (Bv a 0 (r.Log.length:Int)).bind fun r10=>
 (Bm r10 470).bind fun _=>
 (if(r.Role != 0) then R.ok true else(if(a==0) then(Cd r.Votes (j:Int)).bind fun a1=>
 R.ok (!a1) else R.ok false).bind (fun(b6:Bool)=>R.ok b6)).bind (fun(b5:Bool)=>(Bm b5 470).bind fun _=>
 .ok ())
def Rc (r:Replica):R Int:=
 (Bv r.Many 1 5).bind fun r1=>
 (if r1 then(Bv r.ID 0 (IntKind.wrap .i64 (r.Many - 1))).bind fun r2=>
 R.ok r2 else R.ok false).bind (fun(b:Bool)=>(if b then(Bv r.Term 0 1048576).bind fun r3=>
 R.ok r3 else R.ok false).bind (fun(b1:Bool)=>(if b1 then(Bv r.Vote (-1) (IntKind.wrap .i64 (r.Many - 1))).bind fun r4=>
 R.ok r4 else R.ok false).bind (fun(b2:Bool)=>(Bm b2 470).bind fun _=>
 (Hs r.Log r.Term).bind fun r6=>
 (if r6 then(Bv r.Role 0 2).bind fun r7=>
 R.ok r7 else R.ok false).bind (fun(b3:Bool)=>(if b3 then(Bv r.Commit 0 (r.Log.length:Int)).bind fun r8=>
 R.ok r8 else R.ok false).bind (fun(b4:Bool)=>(Bm ((b4&&((r.Votes.length:Int)==r.Many))&&((r.Match.length:Int)==r.Many)) 470).bind fun _=>
 (E3 (fun j a=>fun _=>Gy r j a) 0 r.Match ()).bind ((fun _=>(if(r.Role==0) then R.ok true else(if((r.Vote==r.ID)&&(decide (r.Term≥1))) then(Cd r.Votes r.ID).bind fun a2=>
 R.ok a2 else R.ok false).bind (fun(b8:Bool)=>R.ok b8)).bind (fun(b7:Bool)=>(Bm b7 470).bind fun _=>
 .ok 0))))))))
def Gl (r:Replica):R Int:=
 (Rc r).catch' (H9 105 .i64 (fun n=>(Fi n).bind fun p=>.ok p) (fun _=>.bad))
def Ew (r:Replica):R Unit:=
 .ok ()
def Lz (s:List Record):R (List Record):=if s.length * 32≤C2 then .ok s else .bad
def J7 (s:List Int):R (List Int):=if s.length * 8≤C2 then .ok s else .bad
def Ff (l:List Int):R Unit:=
 .ok ()
section
variable {σ_:Type}
def Jw (b_:Int→σ_→R σ_)(a:Int)(s:σ_):R σ_:=
 (b_ a s).bind fun s1=>
 .ok s1
def K4 (b:List Int)(b_:Int→σ_→R σ_)(s_:σ_):R σ_:=
 (E3 (fun _ a=>fun s=>Jw b_ a s) 0 b s_).bind ((fun s=>.ok s))
end
def P1 (l:List Int):R Unit:=Tz l
def J5 (a:Int)(l:List Int):R (List Int):=
 if(l.length+[a].length) * 8≤C2 then
 .ok (l++[a]) else .bad
def Jb (s:List Int):R (List Int):=
 (K4 s (fun a z_=>R.np ((fun l=>J5 a l) z_)) []).bind (fun l=>.ok l)
def H4 (s:List Int):R (List Int):=
 (Jb s).bind fun r=>
 .ok r
def E9 (s:List Int):R (List Int):=
 (H4 s).bind fun s1=>
 (P1 s1).bind fun _=>
 .ok (Sl s1)
def Fw (s0_ReplicaCommit:Int)(a:Int)(x:Bool)(l3:List Record):R (Int×(List Record)):=
 if x then
(.ok (a,l3))
else
(.ok (s0_ReplicaCommit,l3))
def Gu (s0_ReplicaID:Int)(s0_ReplicaMany:Int)(s0_ReplicaTerm:Int)(s0_ReplicaVote:Int)(s0_ReplicaRole:Int)(s0_ReplicaCommit:Int)(s0_ReplicaVotes:List Bool)(l:List Record)(l1:List Int):R (Int×(List Record)):=
 (Ff l1).bind fun _=>
 (E9 l1).bind fun l2=>
 (Cd l2 (IntKind.wrap .i64 (Int.tdiv (IntKind.wrap .i64 ((l2.length:Int) - 1)) 2))).bind fun a=>
 if(decide (a > s0_ReplicaCommit)) then
((Cd l (IntKind.wrap .i64 (a - 1))).bind fun a1=>
 Fw s0_ReplicaCommit a (a1.Term==s0_ReplicaTerm) l)
else
(Fw s0_ReplicaCommit a false l)
def K1 (vto:Int)(m:Message)(s0_Replica:Replica)(l:List Message):R (List Message):=
 if(l.length+[({ Kind:=m.Kind,From:=s0_Replica.ID,To:=vto,Term:=s0_Replica.Term,Last:=m.Last,LastTerm:=m.LastTerm,Log:=m.Log,Commit:=m.Commit,Match:=m.Match,Granted:=m.Granted }:Message)].length) * 96≤C2 then
 .ok (l++[({ Kind:=m.Kind,From:=s0_Replica.ID,To:=vto,Term:=s0_Replica.Term,Last:=m.Last,LastTerm:=m.LastTerm,Log:=m.Log,Commit:=m.Commit,Match:=m.Match,Granted:=m.Granted }:Message)]) else .bad
def In (m:Message)(s_Replica:Replica)(x:Int)(l:List Message):R ((Int×(List Message)) ⊕ (List Message)):=
 if x<s_Replica.Many then
(if(x != s_Replica.ID) then
((K1 x m s_Replica l).bind fun r=>
 .ok (.inl ((IntKind.wrap .i64 (x+1)),r)))
else
(.ok (.inl ((IntKind.wrap .i64 (x+1)),l))))
else
(.ok (.inr (l)))
def Io (l1:List Message):R (List Message):=
 .ok l1
def Ig (m:Message)(s_Replica:Replica):R (List Message):=
 (loop (Eu fun x l=>In m s_Replica x l) (0,[])).bind (fun l1=>Io l1)
def Hv (s0_ReplicaID:Int)(s0_ReplicaMany:Int)(s0_ReplicaTerm:Int)(s0_ReplicaVote:Int)(s0_ReplicaRole:Int)(s0_ReplicaCommit:Int)(s0_ReplicaVotes:List Bool)(s0_ReplicaMatch:List Int)(l:List Record):R (List Message):=
 (Ig ({ Kind:=3,From:=0,To:=0,Term:=0,Last:=0,LastTerm:=0,Log:=l,Commit:=s0_ReplicaCommit,Match:=0,Granted:=false }:Message) ({ ID:=s0_ReplicaID,Many:=s0_ReplicaMany,Term:=s0_ReplicaTerm,Vote:=s0_ReplicaVote,Log:=l,Role:=s0_ReplicaRole,Commit:=s0_ReplicaCommit,Votes:=s0_ReplicaVotes,Match:=s0_ReplicaMatch }:Replica)).bind fun r=>
 .ok r
def Kh (r:Replica)(l:List Record):R (Replica×(List Message)×Int):=
 (J7 r.Match).bind fun r3=>
 (Cd r3 r.ID).bind fun a=>
 (Gu r.ID r.Many r.Term r.Vote r.Role r.Commit r.Votes l (r3.set r.ID.toNat (l.length:Int))).bind fun r4=>
 (Hv r.ID r.Many r.Term r.Vote r.Role r4.1 r.Votes (r3.set r.ID.toNat (l.length:Int)) r4.2).bind fun r5=>
 .ok (({ ID:=r.ID,Many:=r.Many,Term:=r.Term,Vote:=r.Vote,Log:=r4.2,Role:=r.Role,Commit:=r4.1,Votes:=r.Votes,Match:=(r3.set r.ID.toNat (l.length:Int)) }:Replica),r5,0)
def Kl (r:Replica)(data:List Int):R (Replica×(List Message)×Int):=
 (Gl r).bind fun e=>
 if(e != 0) then
(.ok (({ ID:=0,Many:=0,Term:=0,Vote:=0,Log:=[],Role:=0,Commit:=0,Votes:=[],Match:=[] }:Replica),[],e))
else
(if(r.Role != 2) then
(.ok (({ ID:=0,Many:=0,Term:=0,Vote:=0,Log:=[],Role:=0,Commit:=0,Votes:=[],Match:=[] }:Replica),[],470))
else
(if(r.Log.length:Int)≥4096 then
(.ok (({ ID:=0,Many:=0,Term:=0,Vote:=0,Log:=[],Role:=0,Commit:=0,Votes:=[],Match:=[] }:Replica),[],2))
else
((Ew r).bind fun _=>
 (Lz r.Log).bind fun r1=>
 if(r1.length+[({ Term:=r.Term,Data:=data }:Record)].length) * 32≤C2 then
 Kh r (r1++[({ Term:=r.Term,Data:=data }:Record)]) else .bad)))
def K5 (l:List Bool)(l1:List Int):R ((List Bool)×(List Int)):=
 .ok (l,l1)
def Jc (n:Int):R ((List Bool)×(List Int)):=
 if(0:Int)≤n∧(n:Int)≤n∧(Int.toNat n) * 1≤C2 then
 if(0:Int)≤n∧(n:Int)≤n∧(Int.toNat n) * 8≤C2 then
 K5 (List.replicate (Int.toNat n) false) (List.replicate (Int.toNat n) (0:Int)) else .bad else .bad
def C3 (s_Replica:Replica):R ((List Bool)×(List Int)):=
 (Bv s_Replica.Many 0 5).bind fun r=>
 if r then
(Jc s_Replica.Many)
else
(Jc 0)
def I1 (s:T87):R Int:=
 if((s.Replica.Log.length:Int)==0) then
(.ok 0)
else
((Cd s.Replica.Log (IntKind.wrap .i64 ((s.Replica.Log.length:Int) - 1))).bind fun a=>
 .ok a.Term)
def Hw (vto:Int)(mKind:Int)(mFrom:Int)(mTo:Int)(mTerm:Int)(mLast:Int)(mLastTerm:Int)(mCommit:Int)(mMatch:Int)(mGranted:Bool)(s_Replica:Replica):R (List Message):=
 if [({ Kind:=mKind,From:=s_Replica.ID,To:=vto,Term:=s_Replica.Term,Last:=mLast,LastTerm:=mLastTerm,Log:=[],Commit:=mCommit,Match:=mMatch,Granted:=mGranted }:Message)].length * 96≤C2 then
 .ok [({ Kind:=mKind,From:=s_Replica.ID,To:=vto,Term:=s_Replica.Term,Last:=mLast,LastTerm:=mLastTerm,Log:=[],Commit:=mCommit,Match:=mMatch,Granted:=mGranted }:Message)] else .bad
def Ka (m:Message)(granted:Bool)(vReplica:Replica):R (Replica×(List Message)):=
 (Hw m.From 2 0 0 0 0 0 0 0 granted vReplica).bind fun r2=>
 .ok (vReplica,r2)
def Hb (m:Message)(s_Replica:Replica)(granted:Bool):R (Replica×(List Message)):=
 if granted then
(Ka m granted ({ ID:=s_Replica.ID,Many:=s_Replica.Many,Term:=s_Replica.Term,Vote:=m.From,Log:=s_Replica.Log,Role:=s_Replica.Role,Commit:=s_Replica.Commit,Votes:=s_Replica.Votes,Match:=s_Replica.Match }:Replica))
else
(Ka m granted s_Replica)
def Im (m:Message)(s_Replica:Replica)(good:Bool):R (Replica×(List Message)):=
 if(m.Term==s_Replica.Term) then
(if(s_Replica.Vote==(-1)) then
(Hb m s_Replica good)
else
(if(s_Replica.Vote==m.From) then
(Hb m s_Replica good)
else
(Hb m s_Replica false)))
else
(Hb m s_Replica false)
def Jz (m:Message)(s_Replica:Replica):R (Replica×(List Message)):=
 (I1 ({ Replica:=s_Replica,fSent:=[] }:T87)).bind fun r=>
 if(decide (m.LastTerm > r)) then
(Im m s_Replica true)
else
((I1 ({ Replica:=s_Replica,fSent:=[] }:T87)).bind fun r1=>
 if(m.LastTerm==r1) then
(Im m s_Replica (decide (m.Last≥(s_Replica.Log.length:Int))))
else
(Im m s_Replica false))
def Nb (s:List Bool):R (List Bool):=if s.length * 1≤C2 then .ok s else .bad
def F0 (s0_ReplicaCommit:Int)(a:Int)(x:Bool):R Int:=
 if x then
(.ok a)
else
(.ok s0_ReplicaCommit)
def Fu (s0_ReplicaID:Int)(s0_ReplicaMany:Int)(s0_ReplicaTerm:Int)(s0_ReplicaVote:Int)(s0_ReplicaLog:List Record)(s0_ReplicaRole:Int)(s0_ReplicaCommit:Int)(l:List Bool)(l1:List Int):R Int:=
 (Ff l1).bind fun _=>
 (E9 l1).bind fun l2=>
 (Cd l2 (IntKind.wrap .i64 (Int.tdiv (IntKind.wrap .i64 ((l2.length:Int) - 1)) 2))).bind fun a=>
 if(decide (a > s0_ReplicaCommit)) then
((Cd s0_ReplicaLog (IntKind.wrap .i64 (a - 1))).bind fun a1=>
 F0 s0_ReplicaCommit a (a1.Term==s0_ReplicaTerm))
else
(F0 s0_ReplicaCommit a false)
def Kn (vto:Int)(m:Message)(s0_ReplicaID:Int)(s0_ReplicaMany:Int)(s0_ReplicaTerm:Int)(s0_ReplicaVote:Int)(s0_ReplicaLog:List Record)(s0_ReplicaRole:Int)(s0_ReplicaCommit:Int)(s0_ReplicaMatch:List Int)(l:List Message):R (List Message):=
 if(l.length+[({ Kind:=m.Kind,From:=s0_ReplicaID,To:=vto,Term:=s0_ReplicaTerm,Last:=m.Last,LastTerm:=m.LastTerm,Log:=m.Log,Commit:=m.Commit,Match:=m.Match,Granted:=m.Granted }:Message)].length) * 96≤C2 then
 .ok (l++[({ Kind:=m.Kind,From:=s0_ReplicaID,To:=vto,Term:=s0_ReplicaTerm,Last:=m.Last,LastTerm:=m.LastTerm,Log:=m.Log,Commit:=m.Commit,Match:=m.Match,Granted:=m.Granted }:Message)]) else .bad
def Ip (m:Message)(s_ReplicaID:Int)(s_ReplicaMany:Int)(s_ReplicaTerm:Int)(s_ReplicaVote:Int)(s_ReplicaLog:List Record)(s_ReplicaRole:Int)(s_ReplicaCommit:Int)(s_ReplicaMatch:List Int)(x:Int)(l:List Message):R ((Int×(List Message)) ⊕ (List Message)):=
 if x<s_ReplicaMany then
(if(x != s_ReplicaID) then
((Kn x m s_ReplicaID s_ReplicaMany s_ReplicaTerm s_ReplicaVote s_ReplicaLog s_ReplicaRole s_ReplicaCommit s_ReplicaMatch l).bind fun r=>
 .ok (.inl ((IntKind.wrap .i64 (x+1)),r)))
else
(.ok (.inl ((IntKind.wrap .i64 (x+1)),l))))
else
(.ok (.inr (l)))
def Iu (l1:List Message):R (List Message):=
 .ok l1
def Ih (m:Message)(s_ReplicaID:Int)(s_ReplicaMany:Int)(s_ReplicaTerm:Int)(s_ReplicaVote:Int)(s_ReplicaLog:List Record)(s_ReplicaRole:Int)(s_ReplicaCommit:Int)(s_ReplicaMatch:List Int):R (List Message):=
 (loop (Eu fun x l=>Ip m s_ReplicaID s_ReplicaMany s_ReplicaTerm s_ReplicaVote s_ReplicaLog s_ReplicaRole s_ReplicaCommit s_ReplicaMatch x l) (0,[])).bind (fun l1=>Iu l1)
def G4 (s_ReplicaID:Int)(s_ReplicaMany:Int)(s_ReplicaTerm:Int)(s_ReplicaVote:Int)(s_ReplicaLog:List Record)(s_ReplicaRole:Int)(s_ReplicaCommit:Int)(s_ReplicaMatch:List Int):R (List Message):=
 (Ih ({ Kind:=3,From:=0,To:=0,Term:=0,Last:=0,LastTerm:=0,Log:=s_ReplicaLog,Commit:=s_ReplicaCommit,Match:=0,Granted:=false }:Message) s_ReplicaID s_ReplicaMany s_ReplicaTerm s_ReplicaVote s_ReplicaLog s_ReplicaRole s_ReplicaCommit s_ReplicaMatch).bind fun r=>
 .ok r
def H8 (s0_ReplicaID:Int)(s0_ReplicaMany:Int)(s0_ReplicaTerm:Int)(s0_ReplicaVote:Int)(s0_ReplicaLog:List Record)(s0_ReplicaCommit:Int)(l:List Bool)(l1:List Int):R (Int×(List Int)×(List Message)):=
 (Cd l1 s0_ReplicaID).bind fun a=>
 (Fu s0_ReplicaID s0_ReplicaMany s0_ReplicaTerm s0_ReplicaVote s0_ReplicaLog 2 s0_ReplicaCommit l (l1.set s0_ReplicaID.toNat (s0_ReplicaLog.length:Int))).bind fun r=>
 (G4 s0_ReplicaID s0_ReplicaMany s0_ReplicaTerm s0_ReplicaVote s0_ReplicaLog 2 r (l1.set s0_ReplicaID.toNat (s0_ReplicaLog.length:Int))).bind fun r1=>
 .ok (r,(l1.set s0_ReplicaID.toNat (s0_ReplicaLog.length:Int)),r1)
def G5 (s0_ReplicaID:Int)(s0_ReplicaMany:Int)(s0_ReplicaTerm:Int)(s0_ReplicaVote:Int)(s0_ReplicaLog:List Record)(s0_ReplicaRole:Int)(s0_ReplicaCommit:Int)(s0_ReplicaMatch:List Int)(l:List Bool):R (Int×(List Int)×(List Message)):=
 if(0:Int)≤s0_ReplicaMany∧(s0_ReplicaMany:Int)≤s0_ReplicaMany∧(Int.toNat s0_ReplicaMany) * 8≤C2 then
 H8 s0_ReplicaID s0_ReplicaMany s0_ReplicaTerm s0_ReplicaVote s0_ReplicaLog s0_ReplicaCommit l (List.replicate (Int.toNat s0_ReplicaMany) (0:Int)) else .bad
def H6 (j:Nat)(n:Int)(x2:List Bool):R (Int×(List Bool)):=
 (Cd x2 (j:Int)).bind fun a2=>
 if a2 then
(.ok ((IntKind.wrap .i64 (n+1)),x2))
else
(.ok (n,x2))
def Fv (m:Message)(s_Replica:Replica)(x:Bool):R (Int×Int×(List Bool)×(List Int)×(List Message)):=
 if x then
(.ok (s_Replica.Role,s_Replica.Commit,s_Replica.Votes,s_Replica.Match,[]))
else
((Nb s_Replica.Votes).bind fun r=>
 (Cd r m.From).bind fun a=>
 (E3 (fun j _=>Eu fun n x2=>H6 j n x2) 0 (r.set m.From.toNat true) (0,(r.set m.From.toNat true))).bind ((Eu fun n x2=>if(IntKind.wrap .i64 (2 * n)) > s_Replica.Many then
((G5 s_Replica.ID s_Replica.Many s_Replica.Term s_Replica.Vote s_Replica.Log s_Replica.Role s_Replica.Commit s_Replica.Match x2).bind fun r1=>
 .ok (2,r1.1,x2,r1.2.1,r1.2.2))
else
(.ok (s_Replica.Role,s_Replica.Commit,x2,s_Replica.Match,[])))))
def Hy (m:Message)(s_Replica:Replica):R (Int×Int×(List Bool)×(List Int)×(List Message)):=
 if(s_Replica.Role != 1) then
(Fv m s_Replica true)
else
(if(m.Term != s_Replica.Term) then
(Fv m s_Replica true)
else
(Fv m s_Replica (!m.Granted)))
def Mo (a:List Record)(b:List Record):R Unit:=
 .ok ()
section
variable {σ_ ε_:Type}
def J0 (b:List Record)(c:List Record)(b_:Record→Record→σ_→R (σ_ ⊕ ε_))(x:Int)(s:σ_):R ((Int×σ_) ⊕ (σ_ ⊕ (σ_ ⊕ ε_))):=
 if x<(if(c.length:Int)<(b.length:Int) then(c.length:Int) else(b.length:Int)) then
((Cd b x).bind fun a=>
 (Cd c x).bind fun a1=>
 (b_ a a1 s).bind (G9 (fun s1=>
 .ok (.inl ((IntKind.wrap .i64 (x+1)),s1))) (fun e=>
 .ok (.inr (.inr ((.inr e)))))))
else
(.ok (.inr (.inl (s))))
def Jy (s2:σ_):R (σ_ ⊕ ε_):=
 .ok (.inl s2)
def J6 (b:List Record)(c:List Record)(b_:Record→Record→σ_→R (σ_ ⊕ ε_))(s_:σ_):R (σ_ ⊕ ε_):=
 (loop (Eu fun x s=>J0 b c b_ x s) (0,s_)).bind (G9 (fun s2=>Jy s2) (fun r=>.ok r))
end
def Nc (a1:Record)(a2:Record):R (Unit ⊕ Unit):=
 if((a1.Term != a2.Term)||(!((Be a1.Data)==(Be a2.Data)))) then
(.ok (.inr ()))
else
(.ok (.inl ()))
def Lk (a:List Record)(b:List Record):R Bool:=
 (Mo a b).bind fun _=>
 (J6 a b (fun a1 a2 z_=>R.np ((fun _=>Nc a1 a2) z_)) ()).bind (G9 (fun _=>.ok (decide ((a.length:Int)≤(b.length:Int)))) (fun _=>.ok false))
def Ku (vto:Int)(mKind:Int)(mFrom:Int)(mTo:Int)(mTerm:Int)(mLast:Int)(mLastTerm:Int)(mCommit:Int)(mMatch:Int)(mGranted:Bool)(s_ReplicaID:Int)(s_ReplicaMany:Int)(s_ReplicaTerm:Int)(s_ReplicaVote:Int)(s_ReplicaLog:List Record)(s_ReplicaRole:Int)(s_ReplicaCommit:Int):R (List Message):=
 if [({ Kind:=mKind,From:=s_ReplicaID,To:=vto,Term:=s_ReplicaTerm,Last:=mLast,LastTerm:=mLastTerm,Log:=[],Commit:=mCommit,Match:=mMatch,Granted:=mGranted }:Message)].length * 96≤C2 then
 .ok [({ Kind:=mKind,From:=s_ReplicaID,To:=vto,Term:=s_ReplicaTerm,Last:=mLast,LastTerm:=mLastTerm,Log:=[],Commit:=mCommit,Match:=mMatch,Granted:=mGranted }:Message)] else .bad
def Gf (m:Message)(s_Replica:Replica)(r1:((List Bool)×(List Int)))(vLog:List Record):R ((List Record)×Int×Int×(List Bool)×(List Int)×(List Message)):=
 (Ku m.From 4 0 0 0 0 0 0 (m.Log.length:Int) true s_Replica.ID s_Replica.Many s_Replica.Term s_Replica.Vote vLog 0 (if m.Commit > s_Replica.Commit then m.Commit else s_Replica.Commit)).bind fun r5=>
 .ok (vLog,0,(if m.Commit > s_Replica.Commit then m.Commit else s_Replica.Commit),r1.1,r1.2,r5)
def He (m:Message)(s_Replica:Replica):R ((List Record)×Int×Int×(List Bool)×(List Int)×(List Message)):=
 if m.Term<s_Replica.Term then
((Hw m.From 4 0 0 0 0 0 0 0 false s_Replica).bind fun r=>
 .ok (s_Replica.Log,s_Replica.Role,s_Replica.Commit,s_Replica.Votes,s_Replica.Match,r))
else
(if(s_Replica.Role==2) then
(.ok (s_Replica.Log,s_Replica.Role,s_Replica.Commit,s_Replica.Votes,s_Replica.Match,[]))
else
((C3 s_Replica).bind fun r1=>
 (Lk m.Log s_Replica.Log).bind fun r2=>
 if r2 then
(Gf m s_Replica r1 s_Replica.Log)
else
(if(0:Int)≤s_Replica.Commit∧s_Replica.Commit≤(s_Replica.Log.length:Int) then
 (Lk (s_Replica.Log.take (Int.toNat s_Replica.Commit)) m.Log).bind fun r3=>
 (Bm r3 470).bind fun _=>
 Gf m s_Replica r1 m.Log else .bad)))
def Fx (s0_ReplicaID:Int)(s0_ReplicaMany:Int)(s0_ReplicaTerm:Int)(s0_ReplicaVote:Int)(s0_ReplicaLog:List Record)(s0_ReplicaRole:Int)(s0_ReplicaCommit:Int)(s0_ReplicaVotes:List Bool)(l:List Int)(a:Int)(x:Bool):R Replica:=
 if x then
(.ok ({ ID:=s0_ReplicaID,Many:=s0_ReplicaMany,Term:=s0_ReplicaTerm,Vote:=s0_ReplicaVote,Log:=s0_ReplicaLog,Role:=s0_ReplicaRole,Commit:=a,Votes:=s0_ReplicaVotes,Match:=l }:Replica))
else
(.ok ({ ID:=s0_ReplicaID,Many:=s0_ReplicaMany,Term:=s0_ReplicaTerm,Vote:=s0_ReplicaVote,Log:=s0_ReplicaLog,Role:=s0_ReplicaRole,Commit:=s0_ReplicaCommit,Votes:=s0_ReplicaVotes,Match:=l }:Replica))
def Gw (s0_ReplicaID:Int)(s0_ReplicaMany:Int)(s0_ReplicaTerm:Int)(s0_ReplicaVote:Int)(s0_ReplicaLog:List Record)(s0_ReplicaRole:Int)(s0_ReplicaCommit:Int)(s0_ReplicaVotes:List Bool)(l:List Int):R Replica:=
 (Ff l).bind fun _=>
 (E9 l).bind fun l1=>
 (Cd l1 (IntKind.wrap .i64 (Int.tdiv (IntKind.wrap .i64 ((l1.length:Int) - 1)) 2))).bind fun a=>
 if(decide (a > s0_ReplicaCommit)) then
((Cd s0_ReplicaLog (IntKind.wrap .i64 (a - 1))).bind fun a1=>
 Fx s0_ReplicaID s0_ReplicaMany s0_ReplicaTerm s0_ReplicaVote s0_ReplicaLog s0_ReplicaRole s0_ReplicaCommit s0_ReplicaVotes l a (a1.Term==s0_ReplicaTerm))
else
(Fx s0_ReplicaID s0_ReplicaMany s0_ReplicaTerm s0_ReplicaVote s0_ReplicaLog s0_ReplicaRole s0_ReplicaCommit s0_ReplicaVotes l a false)
def Gb (m:Message)(s_Replica:Replica)(x:Bool):R Replica:=
 if x then
(.ok s_Replica)
else
((Bm (decide (m.Match≤(s_Replica.Log.length:Int))) 470).bind fun _=>
 (J7 s_Replica.Match).bind fun r1=>
 (Cd r1 m.From).bind fun a=>
 (Gw s_Replica.ID s_Replica.Many s_Replica.Term s_Replica.Vote s_Replica.Log s_Replica.Role s_Replica.Commit s_Replica.Votes (r1.set m.From.toNat (if m.Match > a then m.Match else a))).bind fun r2=>
 .ok r2)
def If (m:Message)(s_Replica:Replica):R Replica:=
 if(s_Replica.Role != 2) then
(Gb m s_Replica true)
else
(if(m.Term != s_Replica.Term) then
(Gb m s_Replica true)
else
(Gb m s_Replica (!m.Granted)))
def Ee (n:Int):R Int:=
 (Ex ({ fE:=n }:T104)).bind fun _=>
 .ok (({ fE:=n }:T104).fE)
def Dq (m:Message)(vID1:Int)(vMany1:Int)(vTerm1:Int)(vVote1:Int)(vLog1:List Record)(vRole1:Int)(vCommit1:Int)(vVotes1:List Bool)(vMatch1:List Int):R (Replica×(List Message)×Int):=
 if m.Kind=0 then
(.bad)
else
(if m.Kind=1 then
((Jz m ({ ID:=vID1,Many:=vMany1,Term:=vTerm1,Vote:=vVote1,Log:=vLog1,Role:=vRole1,Commit:=vCommit1,Votes:=vVotes1,Match:=vMatch1 }:Replica)).bind fun r10=>
 .ok (r10.1,r10.2,0))
else
(if m.Kind=2 then
((Hy m ({ ID:=vID1,Many:=vMany1,Term:=vTerm1,Vote:=vVote1,Log:=vLog1,Role:=vRole1,Commit:=vCommit1,Votes:=vVotes1,Match:=vMatch1 }:Replica)).bind fun r11=>
 .ok (({ ID:=(({ ID:=vID1,Many:=vMany1,Term:=vTerm1,Vote:=vVote1,Log:=vLog1,Role:=vRole1,Commit:=vCommit1,Votes:=vVotes1,Match:=vMatch1 }:Replica).ID),Many:=(({ ID:=vID1,Many:=vMany1,Term:=vTerm1,Vote:=vVote1,Log:=vLog1,Role:=vRole1,Commit:=vCommit1,Votes:=vVotes1,Match:=vMatch1 }:Replica).Many),Term:=(({ ID:=vID1,Many:=vMany1,Term:=vTerm1,Vote:=vVote1,Log:=vLog1,Role:=vRole1,Commit:=vCommit1,Votes:=vVotes1,Match:=vMatch1 }:Replica).Term),Vote:=(({ ID:=vID1,Many:=vMany1,Term:=vTerm1,Vote:=vVote1,Log:=vLog1,Role:=vRole1,Commit:=vCommit1,Votes:=vVotes1,Match:=vMatch1 }:Replica).Vote),Log:=(({ ID:=vID1,Many:=vMany1,Term:=vTerm1,Vote:=vVote1,Log:=vLog1,Role:=vRole1,Commit:=vCommit1,Votes:=vVotes1,Match:=vMatch1 }:Replica).Log),Role:=r11.1,Commit:=r11.2.1,Votes:=r11.2.2.1,Match:=r11.2.2.2.1 }:Replica),r11.2.2.2.2,0))
else
(if m.Kind=3 then
((He m ({ ID:=vID1,Many:=vMany1,Term:=vTerm1,Vote:=vVote1,Log:=vLog1,Role:=vRole1,Commit:=vCommit1,Votes:=vVotes1,Match:=vMatch1 }:Replica)).bind fun r12=>
 .ok (({ ID:=(({ ID:=vID1,Many:=vMany1,Term:=vTerm1,Vote:=vVote1,Log:=vLog1,Role:=vRole1,Commit:=vCommit1,Votes:=vVotes1,Match:=vMatch1 }:Replica).ID),Many:=(({ ID:=vID1,Many:=vMany1,Term:=vTerm1,Vote:=vVote1,Log:=vLog1,Role:=vRole1,Commit:=vCommit1,Votes:=vVotes1,Match:=vMatch1 }:Replica).Many),Term:=(({ ID:=vID1,Many:=vMany1,Term:=vTerm1,Vote:=vVote1,Log:=vLog1,Role:=vRole1,Commit:=vCommit1,Votes:=vVotes1,Match:=vMatch1 }:Replica).Term),Vote:=(({ ID:=vID1,Many:=vMany1,Term:=vTerm1,Vote:=vVote1,Log:=vLog1,Role:=vRole1,Commit:=vCommit1,Votes:=vVotes1,Match:=vMatch1 }:Replica).Vote),Log:=r12.1,Role:=r12.2.1,Commit:=r12.2.2.1,Votes:=r12.2.2.2.1,Match:=r12.2.2.2.2.1 }:Replica),r12.2.2.2.2.2,0))
else
(if m.Kind=4 then
((If m ({ ID:=vID1,Many:=vMany1,Term:=vTerm1,Vote:=vVote1,Log:=vLog1,Role:=vRole1,Commit:=vCommit1,Votes:=vVotes1,Match:=vMatch1 }:Replica)).bind fun r13=>
 .ok (r13,[],0))
else
(.bad)))))
def K0 (r:Replica)(m:Message):R (Replica×(List Message)×Int):=
 (Gl r).bind fun r1=>
 if(r1 != 0) then
(.ok (({ ID:=0,Many:=0,Term:=0,Vote:=0,Log:=[],Role:=0,Commit:=0,Votes:=[],Match:=[] }:Replica),[],r1))
else
((Bv m.Kind 1 4).bind fun r2=>
 (if(r2&&(m.To==r.ID)) then(Bv m.From 0 (IntKind.wrap .i64 (r.Many - 1))).bind fun r3=>
 R.ok r3 else R.ok false).bind (fun(b:Bool)=>(if(b&&(m.From != r.ID)) then(Bv m.Term 1 1048576).bind fun r4=>
 R.ok r4 else R.ok false).bind (fun(b1:Bool)=>(Bm b1 470).bind fun _=>
 (if(decide ((if m.Match<(if m.LastTerm<m.Last then m.LastTerm else m.Last) then m.Match else(if m.LastTerm<m.Last then m.LastTerm else m.Last))≥0)) then(Bv m.Commit 0 (m.Log.length:Int)).bind fun r6=>
 R.ok r6 else R.ok false).bind (fun(b2:Bool)=>(if b2 then(Hs m.Log m.Term).bind fun r7=>
 R.ok r7 else R.ok false).bind (fun(b3:Bool)=>(Bm b3 470).bind fun _=>
 (Ew r).bind fun _=>
 if m.Term > r.Term then
((C3 ({ ID:=r.ID,Many:=r.Many,Term:=m.Term,Vote:=(-1),Log:=r.Log,Role:=r.Role,Commit:=r.Commit,Votes:=r.Votes,Match:=r.Match }:Replica)).bind fun r9=>
 Dq m (({ ID:=r.ID,Many:=r.Many,Term:=m.Term,Vote:=(-1),Log:=r.Log,Role:=r.Role,Commit:=r.Commit,Votes:=r.Votes,Match:=r.Match }:Replica).ID) (({ ID:=r.ID,Many:=r.Many,Term:=m.Term,Vote:=(-1),Log:=r.Log,Role:=r.Role,Commit:=r.Commit,Votes:=r.Votes,Match:=r.Match }:Replica).Many) (({ ID:=r.ID,Many:=r.Many,Term:=m.Term,Vote:=(-1),Log:=r.Log,Role:=r.Role,Commit:=r.Commit,Votes:=r.Votes,Match:=r.Match }:Replica).Term) (({ ID:=r.ID,Many:=r.Many,Term:=m.Term,Vote:=(-1),Log:=r.Log,Role:=r.Role,Commit:=r.Commit,Votes:=r.Votes,Match:=r.Match }:Replica).Vote) (({ ID:=r.ID,Many:=r.Many,Term:=m.Term,Vote:=(-1),Log:=r.Log,Role:=r.Role,Commit:=r.Commit,Votes:=r.Votes,Match:=r.Match }:Replica).Log) 0 (({ ID:=r.ID,Many:=r.Many,Term:=m.Term,Vote:=(-1),Log:=r.Log,Role:=r.Role,Commit:=r.Commit,Votes:=r.Votes,Match:=r.Match }:Replica).Commit) r9.1 r9.2)
else
(Dq m r.ID r.Many r.Term r.Vote r.Log r.Role r.Commit r.Votes r.Match))))))
def Mr (r:Replica)(m:Message):R (Replica×(List Message)×Int):=
 (K0 r m).catch' (H9 105 .i64 (fun n=>(Ee n).bind fun p=>.ok (({ ID:=0,Many:=0,Term:=0,Vote:=0,Log:=[],Role:=0,Commit:=0,Votes:=[],Match:=[] }:Replica),[],p)) (fun _=>.bad))
def H7 (s0_ReplicaID:Int)(s0_ReplicaMany:Int)(s0_ReplicaTerm:Int)(s0_ReplicaVote:Int)(s0_ReplicaLog:List Record)(s0_ReplicaCommit:Int)(l:List Bool)(l1:List Int):R (Int×(List Int)×(List Message)):=
 (Cd l1 s0_ReplicaID).bind fun a=>
 (Fu s0_ReplicaID s0_ReplicaMany s0_ReplicaTerm s0_ReplicaVote s0_ReplicaLog 2 s0_ReplicaCommit l (l1.set s0_ReplicaID.toNat (s0_ReplicaLog.length:Int))).bind fun r=>
 (G4 s0_ReplicaID s0_ReplicaMany s0_ReplicaTerm s0_ReplicaVote s0_ReplicaLog 2 r (l1.set s0_ReplicaID.toNat (s0_ReplicaLog.length:Int))).bind fun r1=>
 .ok (r,(l1.set s0_ReplicaID.toNat (s0_ReplicaLog.length:Int)),r1)
def H0 (s0_ReplicaID:Int)(s0_ReplicaMany:Int)(s0_ReplicaTerm:Int)(s0_ReplicaVote:Int)(s0_ReplicaLog:List Record)(s0_ReplicaRole:Int)(s0_ReplicaCommit:Int)(l:List Bool):R (Int×(List Int)×(List Message)):=
 if(0:Int)≤s0_ReplicaMany∧(s0_ReplicaMany:Int)≤s0_ReplicaMany∧(Int.toNat s0_ReplicaMany) * 8≤C2 then
 H7 s0_ReplicaID s0_ReplicaMany s0_ReplicaTerm s0_ReplicaVote s0_ReplicaLog s0_ReplicaCommit l (List.replicate (Int.toNat s0_ReplicaMany) (0:Int)) else .bad
def Ks (vto:Int)(mKind:Int)(mFrom:Int)(mTo:Int)(mTerm:Int)(mLast:Int)(mLastTerm:Int)(mCommit:Int)(mMatch:Int)(mGranted:Bool)(s0_ReplicaID:Int)(s0_ReplicaMany:Int)(s0_ReplicaTerm:Int)(s0_ReplicaVote:Int)(s0_ReplicaLog:List Record)(s0_ReplicaRole:Int)(s0_ReplicaCommit:Int)(l:List Message):R (List Message):=
 if(l.length+[({ Kind:=mKind,From:=s0_ReplicaID,To:=vto,Term:=s0_ReplicaTerm,Last:=mLast,LastTerm:=mLastTerm,Log:=[],Commit:=mCommit,Match:=mMatch,Granted:=mGranted }:Message)].length) * 96≤C2 then
 .ok (l++[({ Kind:=mKind,From:=s0_ReplicaID,To:=vto,Term:=s0_ReplicaTerm,Last:=mLast,LastTerm:=mLastTerm,Log:=[],Commit:=mCommit,Match:=mMatch,Granted:=mGranted }:Message)]) else .bad
def It (mKind:Int)(mFrom:Int)(mTo:Int)(mTerm:Int)(mLast:Int)(mLastTerm:Int)(mCommit:Int)(mMatch:Int)(mGranted:Bool)(s_ReplicaID:Int)(s_ReplicaMany:Int)(s_ReplicaTerm:Int)(s_ReplicaVote:Int)(s_ReplicaLog:List Record)(s_ReplicaRole:Int)(s_ReplicaCommit:Int)(x:Int)(l:List Message):R ((Int×(List Message)) ⊕ (List Message)):=
 if x<s_ReplicaMany then
(if(x != s_ReplicaID) then
((Ks x mKind mFrom mTo mTerm mLast mLastTerm mCommit mMatch mGranted s_ReplicaID s_ReplicaMany s_ReplicaTerm s_ReplicaVote s_ReplicaLog s_ReplicaRole s_ReplicaCommit l).bind fun r=>
 .ok (.inl ((IntKind.wrap .i64 (x+1)),r)))
else
(.ok (.inl ((IntKind.wrap .i64 (x+1)),l))))
else
(.ok (.inr (l)))
def Ir (l1:List Message):R (List Message):=
 .ok l1
def Ij (mKind:Int)(mFrom:Int)(mTo:Int)(mTerm:Int)(mLast:Int)(mLastTerm:Int)(mCommit:Int)(mMatch:Int)(mGranted:Bool)(s_ReplicaID:Int)(s_ReplicaMany:Int)(s_ReplicaTerm:Int)(s_ReplicaVote:Int)(s_ReplicaLog:List Record)(s_ReplicaRole:Int)(s_ReplicaCommit:Int):R (List Message):=
 (loop (Eu fun x l=>It mKind mFrom mTo mTerm mLast mLastTerm mCommit mMatch mGranted s_ReplicaID s_ReplicaMany s_ReplicaTerm s_ReplicaVote s_ReplicaLog s_ReplicaRole s_ReplicaCommit x l) (0,[])).bind (fun l1=>Ir l1)
def Kk (r:Replica):R (Replica×(List Message)×Int):=
 (Gl r).bind fun e=>
 if(e != 0) then
(.ok (({ ID:=0,Many:=0,Term:=0,Vote:=0,Log:=[],Role:=0,Commit:=0,Votes:=[],Match:=[] }:Replica),[],e))
else
(if(r.Term==1048576) then
(.ok (({ ID:=0,Many:=0,Term:=0,Vote:=0,Log:=[],Role:=0,Commit:=0,Votes:=[],Match:=[] }:Replica),[],2))
else
((Ew r).bind fun _=>
 (C3 r).bind fun r1=>
 (Cd r1.1 r.ID).bind fun a=>
 if(r.Many==1) then
((H0 r.ID r.Many (IntKind.wrap .i64 (r.Term+1)) r.ID r.Log 1 r.Commit (r1.1.set r.ID.toNat true)).bind fun r2=>
 .ok (({ ID:=r.ID,Many:=r.Many,Term:=(IntKind.wrap .i64 (r.Term+1)),Vote:=r.ID,Log:=r.Log,Role:=2,Commit:=r2.1,Votes:=(r1.1.set r.ID.toNat true),Match:=r2.2.1 }:Replica),r2.2.2,0))
else
((I1 ({ Replica:=({ ID:=r.ID,Many:=r.Many,Term:=(IntKind.wrap .i64 (r.Term+1)),Vote:=r.ID,Log:=r.Log,Role:=1,Commit:=r.Commit,Votes:=(r1.1.set r.ID.toNat true),Match:=r1.2 }:Replica),fSent:=[] }:T87)).bind fun r3=>
 (Ij 1 0 0 0 (r.Log.length:Int) r3 0 0 false r.ID r.Many (IntKind.wrap .i64 (r.Term+1)) r.ID r.Log 1 r.Commit).bind fun r4=>
 .ok (({ ID:=r.ID,Many:=r.Many,Term:=(IntKind.wrap .i64 (r.Term+1)),Vote:=r.ID,Log:=r.Log,Role:=1,Commit:=r.Commit,Votes:=(r1.1.set r.ID.toNat true),Match:=r1.2 }:Replica),r4,0))))
def C1 (n:Int):R Value:=
 .ok ({ Kind:=1,N:=n,S:=[],L:=[] }:Value)
def Ga (W_:Value→R (Int×Bool))(a:Value)(depth:Int):R (Int ⊕ (Int×Bool)):=
 (W_ a).bind fun r=>
 if r.2 then
(.ok (.inl (if r.1 > depth then r.1 else depth)))
else
(.ok (.inr ((0,false))))
def Ix (W_:Value→R (Int×Bool))(v:Value):R (Int×Bool):=
 (if((decide (v.Kind<1))||(decide (v.Kind > 3))) then R.ok true else if(0:Int)≤v.Kind∧v.Kind<4 then
 R.ok (!(Yq (#v[false,((v.S==[])&&((v.L.length:Int)==0)),((v.N==0)&&((v.L.length:Int)==0)),((v.N==0)&&(v.S==[]))]:(Vector Bool 4)) (Int.toNat v.Kind) false)) else .bad).bind (fun(b:Bool)=>if b then
(.ok (0,false))
else
(if v.Kind<3 then
(.ok (0,true))
else
((each (fun _ a=>fun depth=>Ga W_ a depth) 0 v.L 0).bind (G9 (fun depth=>.ok ((IntKind.wrap .i64 (depth+1)),true)) (fun r=>.ok r)))))
def H1:Nat→Value→R (Int×Bool)
 | 0,_=>.bad
 | n+1,v=>Ix (H1 n) v
def Ph (v:Value):R (Int×Bool):=H1 Jv v
def Mv (v:Value):R Int:=
 (Ph v).bind fun r=>
 if r.2 then
(if r.1 > 16 then
(.ok 2)
else
(.ok 0))
else
(.ok 1)
def Jt:R Unit:=
 .ok ()
def Lh (n:Int):R Int:=
 .ok (O1 .u64 (Hq .u64 (IntKind.wrap .u64 n) 1) (IntKind.wrap .u64 (Int.fdiv n 9223372036854775808)))
def E6 (u1:Int)(b:List Int):R ((Int×(List Int)) ⊕ (Int×(List Int))):=
 if u1≥128 then
(if(b.length+[(P6 .u8 (IntKind.wrap .u8 u1) 128)].length) * 1≤C2 then
 .ok (.inl ((Int.fdiv u1 128),(b++[(P6 .u8 (IntKind.wrap .u8 u1) 128)]))) else .bad)
else
(.ok (.inr ((u1,b))))
def Hr (u2:Int)(b1:List Int):R (List Int):=
 if(b1.length+[(IntKind.wrap .u8 u2)].length) * 1≤C2 then
 .ok (b1++[(IntKind.wrap .u8 u2)]) else .bad
def F9 (u:Int)(l:List Int):R (List Int):=
 (loop (Eu fun u1 b=>E6 u1 b) (u,l)).bind (Eu fun u2 b1=>Hr u2 b1)
def Em (v1:Value)(l:List Int):R (List Int):=
 if(l.length+[1].length) * 1≤C2 then
 (Lh v1.N).bind fun r=>
 (F9 r (l++[1])).bind fun r1=>
 .ok r1 else .bad
def Ek (v1:Value)(l:List Int):R (List Int):=
 if(l.length+[2].length) * 1≤C2 then
 (F9 (IntKind.wrap .u64 (v1.S.length:Int)) (l++[2])).bind fun r=>
 if(r.length+(Cx v1.S).length) * 1≤C2 then
 .ok (r++(Cx v1.S)) else .bad else .bad
def Dz (W_:Value→(List Int)→R (List Int))(a:Value)(b1:List Int):R (List Int):=
 if a.Kind=0 then
(.bad)
else
(if a.Kind=1 then
((Em a b1).bind fun b2=>
 .ok b2)
else
(if a.Kind=2 then
((Ek a b1).bind fun b3=>
 .ok b3)
else
(if a.Kind=3 then
((W_ a b1).bind fun b4=>
 .ok b4)
else
(.bad))))
def Dv (W_:Value→(List Int)→R (List Int))(v1:Value)(l:List Int):R (List Int):=
 if(l.length+[3].length) * 1≤C2 then
 (F9 (IntKind.wrap .u64 (v1.L.length:Int)) (l++[3])).bind fun b=>
 (E3 (fun _ a=>fun b1=>Dz W_ a b1) 0 v1.L b).bind ((fun b1=>.ok b1)) else .bad
def En:Nat→Value→(List Int)→R (List Int)
 | 0,_,_=>.bad
 | n+1,v1,l=>Dv (En n) v1 l
def Gz (v1:Value)(l:List Int):R (List Int):=En Jv v1 l
def Hj (a:Value)(b1:List Int):R (List Int):=
 if a.Kind=0 then
(.bad)
else
(if a.Kind=1 then
((Em a b1).bind fun b2=>
 .ok b2)
else
(if a.Kind=2 then
((Ek a b1).bind fun b3=>
 .ok b3)
else
(if a.Kind=3 then
((Gz a b1).bind fun b4=>
 .ok b4)
else
(.bad))))
def Gt (v1:Value):R (List Int):=
 if [3].length * 1≤C2 then
 (F9 (IntKind.wrap .u64 (v1.L.length:Int)) [3]).bind fun b=>
 (E3 (fun _ a=>fun b1=>Hj a b1) 0 v1.L b).bind ((fun b1=>.ok b1)) else .bad
def Jl (v:Value):R ((List Int)×Int):=
 (Mv v).bind fun e=>
 if(e != 0) then
(.ok ([],e))
else
((Jt).bind fun _=>
 if v.Kind=0 then
(.bad)
else
(if v.Kind=1 then
((Em v []).bind fun b=>
 .ok (b,0))
else
(if v.Kind=2 then
((Ek v []).bind fun b1=>
 .ok (b1,0))
else
(if v.Kind=3 then
((Gt v).bind fun b2=>
 .ok (b2,0))
else
(.bad)))))
def Ic (a:Record)(l:List Value):R (List Value):=
 (C1 a.Term).bind fun r=>
 if(l.length+[({ Kind:=3,N:=0,S:=[],L:=[r,({ Kind:=2,N:=0,S:=(Be a.Data),L:=[] }:Value)] }:Value)].length) * 56≤C2 then
 .ok (l++[({ Kind:=3,N:=0,S:=[],L:=[r,({ Kind:=2,N:=0,S:=(Be a.Data),L:=[] }:Value)] }:Value)]) else .bad
def Fq (m:Message)(l:List Value)(granted:Int):R ((List Int)×Int):=
 (C1 m.Kind).bind fun r1=>
 (C1 m.From).bind fun r2=>
 (C1 m.To).bind fun r3=>
 (C1 m.Term).bind fun r4=>
 (C1 m.Last).bind fun r5=>
 (C1 m.LastTerm).bind fun r6=>
 (C1 m.Commit).bind fun r7=>
 (C1 m.Match).bind fun r8=>
 (C1 granted).bind fun r9=>
 (Jl ({ Kind:=3,N:=0,S:=[],L:=[r1,r2,r3,r4,r5,r6,({ Kind:=3,N:=0,S:=[],L:=l }:Value),r7,r8,r9] }:Value)).bind fun r10=>
 .ok (r10.1,r10.2)
def Gm (m:Message):R ((List Int)×Int):=
 (E3 (fun _ a=>fun l=>Ic a l) 0 m.Log []).bind ((fun l=>if m.Granted then
(Fq m l 1)
else
(Fq m l 0)))
def Eb (r:T107)(ok:Bool):R Unit:=
 if ok then
(.ok ())
else
(.pan ⟨28,.int .i64 10⟩)
def Ea (n:Int)(s:T107):R Unit:=
 (Eb s (decide (n≤(s.fRest.length:Int)))).bind fun _=>
 if(0:Int)≤n∧n≤(s.fRest.length:Int) then
 if(0:Int)≤n∧n≤(s.fRest.length:Int) then
 .ok () else .bad else .bad
def E8 (u:Int)(i:Int)(fRest:List Int):R ((Int×Int×(List Int)) ⊕ (Int×T107)):=
 (Ea 1 ({ fRest:=fRest }:T107)).bind fun _=>
 (Cd (({ fRest:=fRest }:T107).fRest.take 1) 0).bind fun a=>
 (Eb ({ fRest:=(({ fRest:=fRest }:T107).fRest.drop 1) }:T107) (((i==0)||(a != 0))&&((decide (i<9))||(decide (a≤1))))).bind fun _=>
 if(0:Int)≤(IntKind.wrap .i64 (7 * i)) then if a<128 then
(.ok (.inr (((P6 .u64 u (Hq .u64 (IntKind.wrap .u64 (Kf .u8 a 127)) (IntKind.wrap .i64 (7 * i)))),({ fRest:=(({ fRest:=fRest }:T107).fRest.drop 1) }:T107)))))
else
(.ok (.inl ((P6 .u64 u (Hq .u64 (IntKind.wrap .u64 (Kf .u8 a 127)) (IntKind.wrap .i64 (7 * i)))),(IntKind.wrap .i64 (i+1)),(({ fRest:=fRest }:T107).fRest.drop 1)))) else .bad
def Fh (s:T107):R (Int×T107):=
 (loop (Kd fun u i fRest=>E8 u i fRest) (0,0,s.fRest)).bind (fun r=>.ok r)
def Nm (u:Int):R Int:=
 .ok (O1 .i64 (IntKind.wrap .i64 (Int.fdiv u 2)) (IntKind.wrap .i64 (0 - (IntKind.wrap .i64 (Kf .u64 u 1)))))
def Fe (s:T107):R (Int×T107):=
 (Fh s).bind fun n=>
 (Eb n.2 (decide (n.1≤(IntKind.wrap .u64 (n.2.fRest.length:Int))))).bind fun _=>
 .ok ((IntKind.wrap .i64 n.1),n.2)
def D2 (depth:Int)(W_:Int→T107→R (Value×T107))(r6:(Int×T107))(x:Int)(o:T107)(l:List Value):R ((Int×T107×(List Value)) ⊕ (T107×(List Value))):=
 if x<r6.1 then
((W_ (IntKind.wrap .i64 (depth+1)) o).bind fun r7=>
 if(l.length+[r7.1].length) * 56≤C2 then
 .ok (.inl ((IntKind.wrap .i64 (x+1)),r7.2,(l++[r7.1]))) else .bad)
else
(.ok (.inr ((o,l))))
def Hl (a:Int)(o1:T107)(l1:List Value):R (Value×T107):=
 .ok (({ Kind:=(IntKind.wrap .i64 a),N:=0,S:=[],L:=l1 }:Value),o1)
def Eo (W_:Int→T107→R (Value×T107))(depth:Int)(s:T107):R (Value×T107):=
 (Ea 1 s).bind fun _=>
 (Cd (s.fRest.take 1) 0).bind fun a=>
 if((IntKind.wrap .i64 a)==1) then
((Fh ({ fRest:=(s.fRest.drop 1) }:T107)).bind fun r1=>
 (Nm r1.1).bind fun r2=>
 .ok (({ Kind:=(IntKind.wrap .i64 a),N:=r2,S:=[],L:=[] }:Value),r1.2))
else
(if((IntKind.wrap .i64 a)==2) then
((Fe ({ fRest:=(s.fRest.drop 1) }:T107)).bind fun r3=>
 (Ea r3.1 r3.2).bind fun _=>
 .ok (({ Kind:=(IntKind.wrap .i64 a),N:=0,S:=(Be (r3.2.fRest.take (Int.toNat r3.1))),L:=[] }:Value),({ fRest:=(r3.2.fRest.drop (Int.toNat r3.1)) }:T107)))
else
(if((IntKind.wrap .i64 a)==3) then
((Eb ({ fRest:=(s.fRest.drop 1) }:T107) (decide (depth<16))).bind fun _=>
 (Fe ({ fRest:=(s.fRest.drop 1) }:T107)).bind fun r6=>
 (loop (Kd fun x o l=>D2 depth W_ r6 x o l) (0,r6.2,[])).bind (Eu fun o1 l1=>Hl a o1 l1))
else
((Eb ({ fRest:=(s.fRest.drop 1) }:T107) false).bind fun _=>
 .ok (({ Kind:=(IntKind.wrap .i64 a),N:=0,S:=[],L:=[] }:Value),({ fRest:=(s.fRest.drop 1) }:T107)))))
def E1:Nat→Int→T107→R (Value×T107)
 | 0,_,_=>.bad
 | n+1,depth,s=>Eo (E1 n) depth s
def I0 (depth:Int)(s:T107):R (Value×T107):=E1 Jv depth s
def Fd (n:Int):R Int:=
 .ok n
def Lf (b:List Int):R (Value×Int):=
 (I0 0 ({ fRest:=b }:T107)).bind fun r=>
 (Eb r.2 ((r.2.fRest.length:Int)==0)).bind fun _=>
 .ok (r.1,0)
def Nr (b:List Int):R (Value×Int):=
 (Lf b).catch' (Lp 28 .i64 (fun n=>(Fd n).bind fun p=>.ok (({ Kind:=0,N:=0,S:=[],L:=[] }:Value),p)) (fun _=>.bad))
def Bg (i:Int)(b:Value):R Int:=
 (Cd b.L i).bind fun a=>
 (Bm (a.Kind==1) 470).bind fun _=>
 .ok a.N
def El (n:Int):R Int:=
 (Ex ({ fE:=n }:T104)).bind fun _=>
 .ok (({ fE:=n }:T104).fE)
def Gj (a2:Value)(l:List Record):R (List Record):=
 (if((a2.Kind==3)&&((a2.L.length:Int)==2)) then(Cd a2.L 0).bind fun a3=>
 R.ok (a3.Kind==1) else R.ok false).bind (fun(b2:Bool)=>(if b2 then(Cd a2.L 1).bind fun a4=>
 R.ok (a4.Kind==2) else R.ok false).bind (fun(b3:Bool)=>(Bm b3 470).bind fun _=>
 (Cd a2.L 0).bind fun a5=>
 (Cd a2.L 1).bind fun a6=>
 if a6.S.length≤C2 then
 if(l.length+[({ Term:=a5.N,Data:=(Cx a6.S) }:Record)].length) * 32≤C2 then
 .ok (l++[({ Term:=a5.N,Data:=(Cx a6.S) }:Record)]) else .bad else .bad))
def G3 (b:List Int):R (Message×Int):=
 (Nr b).bind fun r=>
 if(r.2 != 0) then
(.ok (({ Kind:=0,From:=0,To:=0,Term:=0,Last:=0,LastTerm:=0,Log:=[],Commit:=0,Match:=0,Granted:=false }:Message),r.2))
else
((if((r.1.Kind==3)&&((r.1.L.length:Int)==10)) then(Cd r.1.L 6).bind fun a=>
 R.ok (a.Kind==3) else R.ok false).bind (fun(b1:Bool)=>(Bm b1 470).bind fun _=>
 (Bg 0 r.1).bind fun r2=>
 (Bg 1 r.1).bind fun r3=>
 (Bg 2 r.1).bind fun r4=>
 (Bg 3 r.1).bind fun r5=>
 (Bg 4 r.1).bind fun r6=>
 (Bg 5 r.1).bind fun r7=>
 (Bg 7 r.1).bind fun r8=>
 (Bg 8 r.1).bind fun r9=>
 (Bg 9 r.1).bind fun r10=>
 (Bg 9 r.1).bind fun r11=>
 (Bv r11 0 1).bind fun r12=>
 (Bm r12 470).bind fun _=>
 (Cd r.1.L 6).bind fun a1=>
 (E3 (fun _ a2=>fun l=>Gj a2 l) 0 a1.L []).bind ((fun l=>.ok (({ Kind:=r2,From:=r3,To:=r4,Term:=r5,Last:=r6,LastTerm:=r7,Log:=l,Commit:=r8,Match:=r9,Granted:=(r10==1) }:Message),0)))))
def Hx (b:List Int):R (Message×Int):=
 (G3 b).catch' (H9 105 .i64 (fun n=>(El n).bind fun p=>.ok (({ Kind:=0,From:=0,To:=0,Term:=0,Last:=0,LastTerm:=0,Log:=[],Commit:=0,Match:=0,Granted:=false }:Message),p)) (fun _=>.bad))
def K9 (r:Replica)(j:Nat)(a:Record)(l:(List (List Int))):R ((List (List Int)) ⊕ (List (List Int))):=
 if(j:Int)≥r.Commit then
(.ok (.inr (l)))
else
(if(l.length+[a.Data].length) * 24≤C2 then
 .ok (.inl (l++[a.Data])) else .bad)
def Hz (l1:(List (List Int))):R (List (List Int)):=
 .ok l1
def Eh (r:Replica):R (List (List Int)):=
 (each (fun j a=>fun l=>K9 r j a l) 0 r.Log []).bind (G9 (fun l=>Hz l) (fun l1=>Hz l1))
def Jm (r:Replica):R Replica:=
 (Ew r).bind fun _=>
 (C3 r).bind fun r1=>
 .ok ({ ID:=r.ID,Many:=r.Many,Term:=r.Term,Vote:=r.Vote,Log:=r.Log,Role:=0,Commit:=0,Votes:=r1.1,Match:=r1.2 }:Replica)
def Px:R Bool:=
 (Ld 0 3).bind fun r=>
 (Ld 0 6).bind fun r1=>
 (Kl r.1 []).bind fun r2=>
 (Mr r.1 ({ Kind:=0,From:=0,To:=0,Term:=0,Last:=0,LastTerm:=0,Log:=[],Commit:=0,Match:=0,Granted:=false }:Message)).bind fun r3=>
 (Ld 0 1).bind fun r4=>
 (Kk r4.1).bind fun r5=>
 (Kl r5.1 [97]).bind fun r6=>
 (Kk r.1).bind fun r7=>
 (Mr r7.1 ({ Kind:=2,From:=2,To:=0,Term:=1,Last:=0,LastTerm:=0,Log:=[],Commit:=0,Match:=0,Granted:=true }:Message)).bind fun r8=>
 (Gm ({ Kind:=3,From:=0,To:=0,Term:=0,Last:=0,LastTerm:=0,Log:=[({ Term:=3,Data:=[120] }:Record)],Commit:=1,Match:=0,Granted:=true }:Message)).bind fun r9=>
 (Hx r9.1).bind fun r10=>
 (Jl ({ Kind:=1,N:=0,S:=[],L:=[] }:Value)).bind fun r11=>
 (Hx r11.1).bind fun r12=>
 (if(((((((((((((r.2 != 0)||(r1.2 != 470))||(r2.2.2 != 470))||(r3.2.2 != 470))||(r4.2 != 0))||(r5.2.2 != 0))||(r6.2.2 != 0))||(r7.2.2 != 0))||(r8.2.2 != 0))||(r9.2 != 0))||(r10.2 != 0))||(r11.2 != 0))||(r12.2 != 470)) then R.ok true else(Gl ({ ID:=0,Many:=0,Term:=0,Vote:=0,Log:=[],Role:=0,Commit:=0,Votes:=[],Match:=[] }:Replica)).bind fun r13=>
 R.ok (r13 != 470)).bind (fun(b:Bool)=>(if b then R.ok true else(Gl r.1).bind fun r14=>
 R.ok (r14 != 0)).bind (fun(b1:Bool)=>if b1 then
(.ok false)
else
((Eh r6.1).bind fun r15=>
 (if(((r5.2.1.length:Int)==0)&&((r15.length:Int)==1)) then(Cd r15 0).bind fun a=>
 R.ok ((Be a)==[97]) else R.ok false).bind (fun(b2:Bool)=>(if b2 then(Jm r6.1).bind fun r16=>
 (Eh r16).bind fun r17=>
 R.ok ((r17.length:Int)==0) else R.ok false).bind (fun(b3:Bool)=>(if(b3&&((r7.2.1.length:Int)==2)) then(Cd r7.2.1 0).bind fun a1=>
 R.ok (a1.Kind==1) else R.ok false).bind (fun(b4:Bool)=>(if((b4&&(r8.1.Role==2))&&((r8.2.1.length:Int)==2)) then(Cd r8.2.1 1).bind fun a2=>
 R.ok (a2.Kind==3) else R.ok false).bind (fun(b5:Bool)=>(if((b5&&r10.1.Granted)&&((r10.1.Log.length:Int)==1)) then(Cd r10.1.Log 0).bind fun a3=>
 R.ok ((Be a3.Data)==[120]) else R.ok false).bind (fun(b6:Bool)=>.ok b6))))))))
def Nq (a:Record):R (Unit ⊕ Bool):=
 if(a.Data.length:Int) > 100 then
(.ok (.inr (false)))
else
(.ok (.inl ()))
def Pp (l:List Record):R Bool:=
 (each (fun _ a=>fun _=>Nq a) 0 l ()).bind (G9 (fun _=>.ok (decide ((l.length:Int)≤20))) (fun r=>.ok r))
def Fb (n:Int):R Value:=
 .ok ({ Kind:=1,N:=n,S:=[],L:=[] }:Value)
def Kt (W_:Value→R Bool)(a:Value):R (Unit ⊕ Bool):=
 (W_ a).bind fun r=>
 if r then
(.ok (.inl ()))
else
(.ok (.inr (false)))
def R4 (W_:Value→R Bool)(v:Value):R Bool:=
 if(v.Kind==1) then
(.ok ((v.S==[])&&((v.L.length:Int)==0)))
else
(if(v.Kind==2) then
(.ok ((v.N==0)&&((v.L.length:Int)==0)))
else
(if(v.Kind==3) then
((each (fun _ a=>fun _=>Kt W_ a) 0 v.L ()).bind (G9 (fun _=>.ok ((v.N==0)&&(v.S==[]))) (fun r=>.ok r)))
else
(.ok false)))
def I3:Nat→Value→R Bool
 | 0,_=>.bad
 | n+1,v=>R4 (I3 n) v
def Uk (v:Value):R Bool:=I3 Jv v
def J3 (W_:Value→R Int)(a:Value)(n:Int):R Int:=
 (W_ a).bind fun r=>
 .ok (if r > n then r else n)
def Kw (W_:Value→R Int)(v:Value):R Int:=
 if(v.Kind != 3) then
(.ok 0)
else
((E3 (fun _ a=>fun n=>J3 W_ a n) 0 v.L 0).bind ((fun n=>.ok (IntKind.wrap .i64 (n+1)))))
def Ju:Nat→Value→R Int
 | 0,_=>.bad
 | n+1,v=>Kw (Ju n) v
def V4 (v:Value):R Int:=Ju Jv v
def Oy (v:Value):R Int:=
 (Uk v).bind fun r=>
 if r then
((V4 v).bind fun r1=>
 if r1 > 16 then
(.ok 2)
else
(.ok 0))
else
(.ok 1)
def Nw (n:Int):R Int:=
 if n≥0 then
(.ok (IntKind.wrap .u64 (2 * (IntKind.wrap .u64 n))))
else
(.ok (IntKind.wrap .u64 ((IntKind.wrap .u64 (2 * (IntKind.wrap .u64 (IntKind.wrap .i64 (0 - (IntKind.wrap .i64 (n+1)))))))+1)))
def Mm (W_:Int→R (List Int))(u:Int):R (List Int):=
 if u<128 then
(.ok [(IntKind.wrap .u8 u)])
else
((W_ (IntKind.wrap .u64 (Int.tdiv u 128))).bind fun r=>
 if([(IntKind.wrap .u8 (IntKind.wrap .u64 ((Int.tmod u 128)+128)))].length+r.length) * 1≤C2 then
 .ok ([(IntKind.wrap .u8 (IntKind.wrap .u64 ((Int.tmod u 128)+128)))]++r) else .bad)
def Km:Nat→Int→R (List Int)
 | 0,_=>.bad
 | n+1,u=>Mm (Km n) u
def Mf (u:Int):R (List Int):=Km Jv u
def Ri (x:List Int):R (List Int):=
 .ok x
def Ji (W_:Value→R (List Int))(a:Value)(out:List Int):R (List Int):=
 (W_ a).bind fun r5=>
 if(out.length+r5.length) * 1≤C2 then
 .ok (out++r5) else .bad
def J2 (W_:Value→R (List Int))(v:Value):R (List Int):=
 if(v.Kind==1) then
((Nw v.N).bind fun r=>
 (Mf r).bind fun r1=>
 if([1].length+r1.length) * 1≤C2 then
 .ok ([1]++r1) else .bad)
else
(if(v.Kind==2) then
((Mf (IntKind.wrap .u64 (v.S.length:Int))).bind fun r2=>
 if([2].length+r2.length) * 1≤C2 then
 if(([2]++r2).length+(Cx v.S).length) * 1≤C2 then
 Ri (([2]++r2)++(Cx v.S)) else .bad else .bad)
else
((Mf (IntKind.wrap .u64 (v.L.length:Int))).bind fun r4=>
 if([3].length+r4.length) * 1≤C2 then
 (E3 (fun _ a=>fun out=>Ji W_ a out) 0 v.L ([3]++r4)).bind ((fun out=>.ok out)) else .bad))
def I5:Nat→Value→R (List Int)
 | 0,_=>.bad
 | n+1,v=>J2 (I5 n) v
def Pq (v:Value):R (List Int):=I5 Jv v
def Ny (v:Value):R ((List Int)×Int):=
 (Oy v).bind fun e=>
 if(e != 0) then
(.ok ([],e))
else
((Pq v).bind fun r=>
 .ok (r,0))
def Kr (a:Record)(l:List Value):R (List Value):=
 (Fb a.Term).bind fun r=>
 if(l.length+[({ Kind:=3,N:=0,S:=[],L:=[r,({ Kind:=2,N:=0,S:=(Be a.Data),L:=[] }:Value)] }:Value)].length) * 56≤C2 then
 .ok (l++[({ Kind:=3,N:=0,S:=[],L:=[r,({ Kind:=2,N:=0,S:=(Be a.Data),L:=[] }:Value)] }:Value)]) else .bad
def Ie (m:Message)(l:List Value)(granted:Int):R ((List Int)×Int):=
 (Fb m.Kind).bind fun r1=>
 (Fb m.From).bind fun r2=>
 (Fb m.To).bind fun r3=>
 (Fb m.Term).bind fun r4=>
 (Fb m.Last).bind fun r5=>
 (Fb m.LastTerm).bind fun r6=>
 (Fb m.Commit).bind fun r7=>
 (Fb m.Match).bind fun r8=>
 (Fb granted).bind fun r9=>
 (Ny ({ Kind:=3,N:=0,S:=[],L:=[r1,r2,r3,r4,r5,r6,({ Kind:=3,N:=0,S:=[],L:=l }:Value),r7,r8,r9] }:Value)).bind fun r10=>
 .ok (r10.1,r10.2)
def Pj (m:Message):R ((List Int)×Int):=
 (E3 (fun _ a=>fun l=>Kr a l) 0 m.Log []).bind ((fun l=>if m.Granted then
(Ie m l 1)
else
(Ie m l 0)))
def Id (s:T111):R (Int×T111):=
 if s.At≥(s.B.length:Int) then
(.ok (0,({ B:=s.B,At:=s.At,Bad:=true }:T111)))
else
((Cd s.B (IntKind.wrap .i64 ((IntKind.wrap .i64 (s.At+1)) - 1))).bind fun a=>
 .ok (a,({ B:=s.B,At:=(IntKind.wrap .i64 (s.At+1)),Bad:=s.Bad }:T111)))
def Gd (n:Int)(i:Int)(o:T111):R ((Int×Int×T111) ⊕ (T111 ⊕ (Int×T111))):=
 if o.Bad then
(.ok (.inr (.inl (o))))
else
((Id o).bind fun c=>
 if(((i==9)&&(decide (c.1 > 1)))||((decide (i > 0))&&(c.1==0))) then
(.ok (.inr (.inr ((0,({ B:=c.2.B,At:=c.2.At,Bad:=true }:T111))))))
else
(if(0:Int)≤(IntKind.wrap .i64 (7 * i)) then if c.1<128 then
(.ok (.inr (.inr (((IntKind.wrap .u64 (n+(Hq .u64 (IntKind.wrap .u64 (Int.tmod c.1 128)) (IntKind.wrap .i64 (7 * i))))),c.2)))))
else
(.ok (.inl ((IntKind.wrap .u64 (n+(Hq .u64 (IntKind.wrap .u64 (Int.tmod c.1 128)) (IntKind.wrap .i64 (7 * i))))),(IntKind.wrap .i64 (i+1)),c.2))) else .bad))
def Iq (o1:T111):R (Int×T111):=
 .ok (0,o1)
def Gh (s:T111):R (Int×T111):=
 (loop (Kd fun n i o=>Gd n i o) (0,0,s)).bind (G9 (fun o1=>Iq o1) (fun r=>.ok r))
def I9 (r2:(Int×T111))(x:Bool):R (Value×T111):=
 if x then
(.ok (({ Kind:=0,N:=0,S:=[],L:=[] }:Value),({ B:=r2.2.B,At:=r2.2.At,Bad:=true }:T111)))
else
(if(0:Int)≤(IntKind.wrap .i64 ((IntKind.wrap .i64 (r2.2.At+(IntKind.wrap .i64 r2.1))) - (IntKind.wrap .i64 r2.1)))∧(IntKind.wrap .i64 ((IntKind.wrap .i64 (r2.2.At+(IntKind.wrap .i64 r2.1))) - (IntKind.wrap .i64 r2.1)))≤(IntKind.wrap .i64 (r2.2.At+(IntKind.wrap .i64 r2.1)))∧(IntKind.wrap .i64 (r2.2.At+(IntKind.wrap .i64 r2.1)))≤(r2.2.B.length:Int) then
 .ok (({ Kind:=2,N:=0,S:=(Be (X4 r2.2.B (IntKind.wrap .i64 ((IntKind.wrap .i64 (r2.2.At+(IntKind.wrap .i64 r2.1))) - (IntKind.wrap .i64 r2.1))) (IntKind.wrap .i64 (r2.2.At+(IntKind.wrap .i64 r2.1))))),L:=[] }:Value),({ B:=r2.2.B,At:=(IntKind.wrap .i64 (r2.2.At+(IntKind.wrap .i64 r2.1))),Bad:=r2.2.Bad }:T111)) else .bad)
def D1 (b:Int)(W_:Int→T111→R (Value×T111))(r3:(Int×T111))(x2:Int)(o:T111)(l:List Value):R ((Int×T111×(List Value)) ⊕ (T111×(List Value))):=
 if((decide (x2<r3.1))&&(!o.Bad)) then
((W_ (IntKind.wrap .i64 (b+1)) o).bind fun r4=>
 if(l.length+[r4.1].length) * 56≤C2 then
 .ok (.inl ((IntKind.wrap .u64 (x2+1)),r4.2,(l++[r4.1]))) else .bad)
else
(.ok (.inr ((o,l))))
def I8 (o1:T111)(l1:List Value):R (Value×T111):=
 .ok (({ Kind:=3,N:=0,S:=[],L:=l1 }:Value),o1)
def Fj (b:Int)(W_:Int→T111→R (Value×T111))(r3:(Int×T111))(x1:Bool):R (Value×T111):=
 if x1 then
(.ok (({ Kind:=0,N:=0,S:=[],L:=[] }:Value),({ B:=r3.2.B,At:=r3.2.At,Bad:=true }:T111)))
else
((loop (Kd fun x2 o l=>D1 b W_ r3 x2 o l) (0,r3.2,[])).bind (Eu fun o1 l1=>I8 o1 l1))
def F8 (W_:Int→T111→R (Value×T111))(b:Int)(s:T111):R (Value×T111):=
 (Id s).bind fun r=>
 if(r.1==1) then
((Gh r.2).bind fun r1=>
 if((Int.tmod r1.1 2)==1) then
(.ok (({ Kind:=1,N:=(IntKind.wrap .i64 ((IntKind.wrap .i64 (0 - (IntKind.wrap .i64 (IntKind.wrap .u64 (Int.tdiv r1.1 2))))) - 1)),S:=[],L:=[] }:Value),r1.2))
else
(.ok (({ Kind:=1,N:=(IntKind.wrap .i64 (IntKind.wrap .u64 (Int.tdiv r1.1 2))),S:=[],L:=[] }:Value),r1.2)))
else
(if(r.1==2) then
((Gh r.2).bind fun r2=>
 if r2.2.Bad then
(I9 r2 true)
else
(I9 r2 (decide (r2.1 > (IntKind.wrap .u64 (IntKind.wrap .i64 ((r2.2.B.length:Int) - r2.2.At)))))))
else
(if(r.1==3) then
((Gh r.2).bind fun r3=>
 if r3.2.Bad then
(Fj b W_ r3 true)
else
(if(decide (r3.1 > (IntKind.wrap .u64 (IntKind.wrap .i64 ((r3.2.B.length:Int) - r3.2.At))))) then
(Fj b W_ r3 true)
else
(Fj b W_ r3 (b==16))))
else
(.ok (({ Kind:=0,N:=0,S:=[],L:=[] }:Value),({ B:=r.2.B,At:=r.2.At,Bad:=true }:T111)))))
def F6:Nat→Int→T111→R (Value×T111)
 | 0,_,_=>.bad
 | n+1,b,s=>F8 (F6 n) b s
def Ms (b:Int)(s:T111):R (Value×T111):=F6 Jv b s
def Ko (r:(Value×T111))(x:Bool):R (Value×Int):=
 if x then
(.ok (({ Kind:=0,N:=0,S:=[],L:=[] }:Value),10))
else
(.ok (r.1,0))
def Pf (b:List Int):R (Value×Int):=
 (Ms 0 ({ B:=b,At:=0,Bad:=false }:T111)).bind fun r=>
 if r.2.Bad then
(Ko r true)
else
(if(r.2.At != (b.length:Int)) then
(Ko r true)
else
((Oy r.1).bind fun r1=>
 if(r1 != 0) then
(Ko r true)
else
((Pq r.1).bind fun r2=>
 Ko r (!((Be r2)==(Be b))))))
def Nn (n:Int)(lo:Int)(hi:Int):R Bool:=
 .ok ((decide (lo≤n))&&(decide (n≤hi)))
def Jo (r:(Value×Int))(j:Nat):R (Unit ⊕ (Message×Int)):=
 (if((j:Int) != 6) then(Cd r.1.L (j:Int)).bind fun a3=>
 R.ok (a3.Kind != 1) else R.ok false).bind (fun(b1:Bool)=>if b1 then
(.ok (.inr ((({ Kind:=0,From:=0,To:=0,Term:=0,Last:=0,LastTerm:=0,Log:=[],Commit:=0,Match:=0,Granted:=false }:Message),470))))
else
(.ok (.inl ())))
def F7 (r:(Value×Int))(x1:Int)(l:List Record):R ((Int×(List Record)) ⊕ ((List Record) ⊕ (Message×Int))):=
 (Cd r.1.L 6).bind fun a13=>
 if x1<(a13.L.length:Int) then
((Cd a13.L x1).bind fun a14=>
 (if((a14.Kind != 3)||((a14.L.length:Int) != 2)) then R.ok true else(Cd a14.L 0).bind fun a15=>
 R.ok (a15.Kind != 1)).bind (fun(b2:Bool)=>(if b2 then R.ok true else(Cd a14.L 1).bind fun a16=>
 R.ok (a16.Kind != 2)).bind (fun(b3:Bool)=>if b3 then
(.ok (.inr (.inr ((({ Kind:=0,From:=0,To:=0,Term:=0,Last:=0,LastTerm:=0,Log:=[],Commit:=0,Match:=0,Granted:=false }:Message),470)))))
else
((Cd a14.L 0).bind fun a17=>
 (Cd a14.L 1).bind fun a18=>
 if a18.S.length≤C2 then
 if(l.length+[({ Term:=a17.N,Data:=(Cx a18.S) }:Record)].length) * 32≤C2 then
 .ok (.inl ((IntKind.wrap .i64 (x1+1)),(l++[({ Term:=a17.N,Data:=(Cx a18.S) }:Record)]))) else .bad else .bad))))
else
(.ok (.inr (.inl (l))))
def Ki (a4:Value)(a5:Value)(a6:Value)(a7:Value)(a8:Value)(a9:Value)(a10:Value)(a11:Value)(a12:Value)(l1:List Record):R (Message×Int):=
 .ok (({ Kind:=a5.N,From:=a6.N,To:=a7.N,Term:=a8.N,Last:=a9.N,LastTerm:=a10.N,Log:=l1,Commit:=a11.N,Match:=a12.N,Granted:=(a4.N==1) }:Message),0)
def Pk (a:List Int):R (Message×Int):=
 (Pf a).bind fun r=>
 if(r.2 != 0) then
(.ok (({ Kind:=0,From:=0,To:=0,Term:=0,Last:=0,LastTerm:=0,Log:=[],Commit:=0,Match:=0,Granted:=false }:Message),r.2))
else
((if((r.1.Kind != 3)||((r.1.L.length:Int) != 10)) then R.ok true else(Cd r.1.L 6).bind fun a1=>
 R.ok (a1.Kind != 3)).bind (fun(b:Bool)=>if b then
(.ok (({ Kind:=0,From:=0,To:=0,Term:=0,Last:=0,LastTerm:=0,Log:=[],Commit:=0,Match:=0,Granted:=false }:Message),470))
else
((each (fun j _=>fun _=>Jo r j) 0 (List.range 10) ()).bind (G9 (fun _=>(Cd r.1.L 9).bind fun a4=>
 (Nn a4.N 0 1).bind fun r1=>
 if r1 then
((Cd r.1.L 0).bind fun a5=>
 (Cd r.1.L 1).bind fun a6=>
 (Cd r.1.L 2).bind fun a7=>
 (Cd r.1.L 3).bind fun a8=>
 (Cd r.1.L 4).bind fun a9=>
 (Cd r.1.L 5).bind fun a10=>
 (Cd r.1.L 7).bind fun a11=>
 (Cd r.1.L 8).bind fun a12=>
 (loop (Eu fun x1 l=>F7 r x1 l) (0,[])).bind (G9 (fun l1=>Ki a4 a5 a6 a7 a8 a9 a10 a11 a12 l1) (fun r=>.ok r)))
else
(.ok (({ Kind:=0,From:=0,To:=0,Term:=0,Last:=0,LastTerm:=0,Log:=[],Commit:=0,Match:=0,Granted:=false }:Message),470))) (fun r=>.ok r)))))
def Tl (a:Record)(b:Record):R Bool:=
 .ok ((a.Term==b.Term)&&((Be a.Data)==(Be b.Data)))
def Ml (b:List Record)(j:Nat)(a1:Record):R (Unit ⊕ Bool):=
 (Cd b (j:Int)).bind fun a2=>
 (Tl a1 a2).bind fun r=>
 if r then
(.ok (.inl ()))
else
(.ok (.inr (false)))
def Pr (a:List Record)(b:List Record):R Bool:=
 if(a.length:Int) > (b.length:Int) then
(.ok false)
else
((each (fun j a1=>fun _=>Ml b j a1) 0 a ()).bind (G9 (fun _=>.ok true) (fun r=>.ok r)))
def Ez (a:Message)(b:Message):R Bool:=
 (if((((((((((a.Kind==b.Kind)&&(a.From==b.From))&&(a.To==b.To))&&(a.Term==b.Term))&&(a.Last==b.Last))&&(a.LastTerm==b.LastTerm))&&(a.Commit==b.Commit))&&(a.Match==b.Match))&&(a.Granted==b.Granted))&&((a.Log.length:Int)==(b.Log.length:Int))) then(Pr a.Log b.Log).bind fun r=>
 R.ok r else R.ok false).bind (fun(b1:Bool)=>.ok b1)
def Kq (m:Message)(raw:List Int):R Bool:=
 (Px).bind fun r=>
 if r then
((Pp m.Log).bind fun r1=>
 if((!r1)||(decide ((raw.length:Int) > 2000))) then
(.ok true)
else
((Gm m).bind fun r2=>
 (Pj m).bind fun r3=>
 (Hx r2.1).bind fun r4=>
 (Hx raw).bind fun r5=>
 (Pk raw).bind fun r6=>
 (if((((!((Be r2.1)==(Be r3.1)))||(r2.2 != r3.2))||(r2.2 != 0))||(r4.2 != 0)) then R.ok true else(Ez r4.1 m).bind fun r7=>
 R.ok (!r7)).bind (fun(b:Bool)=>(if b then R.ok true else(Ez r5.1 r6.1).bind fun r8=>
 R.ok (!r8)).bind (fun(b1:Bool)=>if(b1||(r5.2 != r6.2)) then
(.ok false)
else
(if(r5.2 != 0) then
((Ez r5.1 ({ Kind:=0,From:=0,To:=0,Term:=0,Last:=0,LastTerm:=0,Log:=[],Commit:=0,Match:=0,Granted:=false }:Message)).bind fun r9=>
 .ok r9)
else
((Gm r5.1).bind fun r10=>
 .ok ((r10.2==0)&&((Be r10.1)==(Be raw)))))))))
else
(.ok false)
end
end Go.Am
namespace Go.Am
open Go
set_option linter.unusedVariables false
def T9:Ty Record:=⟨Ak,fun x=>(G0 .i64).good x.Term∧(Ve 1 (G0 .u8)).good x.Data∧True,fun x=>((G0 .i64).bulk x.Term+((Ve 1 (G0 .u8)).bulk x.Data+(0)))+1⟩
def Xj:Ty Message:=⟨An,fun x=>(G0 .i64).good x.Kind∧(G0 .i64).good x.From∧(G0 .i64).good x.To∧(G0 .i64).good x.Term∧(G0 .i64).good x.Last∧(G0 .i64).good x.LastTerm∧(Ve 2 T9).good x.Log∧(G0 .i64).good x.Commit∧(G0 .i64).good x.Match∧Abs.good x.Granted∧True,fun x=>((G0 .i64).bulk x.Kind+((G0 .i64).bulk x.From+((G0 .i64).bulk x.To+((G0 .i64).bulk x.Term+((G0 .i64).bulk x.Last+((G0 .i64).bulk x.LastTerm+((Ve 2 T9).bulk x.Log+((G0 .i64).bulk x.Commit+((G0 .i64).bulk x.Match+(Abs.bulk x.Granted+(0)))))))))))+1⟩
def L1:Prop := ∀ (a0:Message) (a1:List Int) (_:Xj.good a0) (_:(Ve 1 (G0 .u8)).good a1),Xj.bulk a0+((Ve 1 (G0 .u8)).bulk a1)≤1048576→Kq a0 a1=.ok true
end Go.Am
namespace Go.Am
open Go
set_option linter.unusedVariables false
set_option linter.unusedSimpArgs false
namespace Rp
theorem Akt (n lo hi:Int):Bv n lo hi=.ok (decide (lo≤n)&&decide (n≤hi)):=rfl
theorem Adz (b:Bool)(e:Int):Bm b e=if b then .ok () else .pan ⟨105,.one .i64 e⟩:=rfl
def Xm (term:Int):Int→List Record→Bool
 | _,[]=>true
 | p,a::l=>decide (1≤a.Term)&&decide (a.Term≤term)&&decide (p≤a.Term)&&Xm term a.Term l
def Sn:PV:=⟨105,.one .i64 470⟩
structure Good (r:Replica):Prop where
 many:1≤r.Many∧r.Many≤5
 id:0≤r.ID∧r.ID<r.Many
 term:0≤r.Term∧r.Term≤1048576
 vote : -1≤r.Vote∧r.Vote<r.Many
 fits:Xm r.Term 0 r.Log=true
 role:0≤r.Role∧r.Role≤2
 commit:0≤r.Commit∧r.Commit≤r.Log.length
 votes:(r.Votes.length:Int)=r.Many
 mlen:(r.Match.length:Int)=r.Many
 mat : ∀ (j:Nat) a,r.Match[j]? = some a→(0≤a∧a≤r.Log.length)∧(r.Role=0→a=0∧r.Votes[j]? = some false)
 lead:r.Role≠0→r.Vote=r.ID∧1≤r.Term∧r.Votes[r.ID.toNat]? = some true
def c1 (r:Replica):Bool:=(decide (1≤r.Many)&&decide (r.Many≤5))&&((decide (0≤r.ID)&&decide (r.ID≤r.Many - 1))&&((decide (0≤r.Term)&&decide (r.Term≤1048576))&&(decide (-1≤r.Vote)&&decide (r.Vote≤r.Many - 1))))
def c2 (r:Replica):Bool:=(Xm r.Term 0 r.Log&&((decide (0≤r.Role)&&decide (r.Role≤2))&&(decide (0≤r.Commit)&&decide (r.Commit≤(r.Log.length:Int)))))&&((r.Votes.length:Int)==r.Many)&&((r.Match.length:Int)==r.Many)
def m3 (r:Replica)(j:Nat)(a:Int):Bool:=(decide (0≤a)&&decide (a≤(r.Log.length:Int)))&&(r.Role != 0||(a==0 && !(r.Votes.getD j false)))
def c4 (r:Replica):Bool:=r.Role==0||((r.Vote==r.ID)&&decide (r.Term≥1)&&r.Votes.getD r.ID.toNat false)
end Rp
end Go.Am
namespace Go.Am
open Go
set_option linter.unusedVariables false
set_option linter.unusedSimpArgs false
namespace Rp
end Rp
end Go.Am
namespace Go.Am
open Go
set_option linter.unusedVariables false
set_option linter.unusedSimpArgs false
namespace Rp
end Rp
end Go.Am
namespace Go.Am
open Go
set_option linter.unusedVariables false
set_option linter.unusedSimpArgs false
namespace Rp
end Rp
end Go.Am
namespace Go.Am
open Go
set_option linter.unusedVariables false
set_option linter.unusedSimpArgs false
namespace Rp
structure Shape (r:Replica):Prop where
 many:1≤r.Many∧r.Many≤5
 id:0≤r.ID∧r.ID<r.Many
 commit:0≤r.Commit∧r.Commit≤r.Log.length
 votes:(r.Votes.length:Int)=r.Many
 mlen:(r.Match.length:Int)=r.Many
 mat : ∀ a ∈ r.Match,0≤a∧a≤r.Log.length
 log:r.Log.length≤C2
end Rp
end Go.Am
namespace Go.Am
open Go
set_option linter.unusedVariables false
set_option linter.unusedSimpArgs false
namespace Rp
end Rp
end Go.Am
namespace Go.Am
open Go
set_option linter.unusedVariables false
set_option linter.unusedSimpArgs false
namespace Rp
structure Same (x r:Replica):Prop where
 id:x.ID=r.ID
 many:x.Many=r.Many
 term:x.Term=r.Term
end Rp
end Go.Am
namespace Go.Am
open Go
set_option linter.unusedVariables false
set_option linter.unusedSimpArgs false
namespace Rp
end Rp
end Go.Am
namespace Go.Am
open Go
set_option linter.unusedVariables false
set_option linter.unusedSimpArgs false
namespace Rp
structure MOk (r:Replica)(m:Message):Prop where
 kind:1≤m.Kind∧m.Kind≤4
 to:m.To=r.ID
 frm:0≤m.From∧m.From<r.Many
 ne:m.From≠r.ID
 term:1≤m.Term∧m.Term≤1048576
 mat:0≤m.Match
 lt:0≤m.LastTerm
 last:0≤m.Last
 commit:0≤m.Commit∧m.Commit≤m.Log.length
 fits:Xm m.Term 0 m.Log=true
end Rp
end Go.Am
namespace Go.Am
open Go
set_option linter.unusedVariables false
set_option linter.unusedSimpArgs false
namespace Rp
def Ale (r:Replica):List Record:=r.Log.take r.Commit.toNat
structure Kept (r x:Replica)(l:List Message):Prop where
 id:x.ID=r.ID
 many:x.Many=r.Many
 term:x.Term=r.Term
 Ale:Ale r <+: Ale x
 sent : ∀ a ∈ l,a.From=r.ID∧a.Term=r.Term
theorem Ano (l:List Record) : ∃ b,Pp l=.ok b:=by
 unfold Pp
 rw [Aan (p:=fun a=>decide ((a.Data.length:Int) > 100)) false l 0 fun j a _=>by simp only [Nq,decide_eq_true_eq]]
 simp only [R.ok_bind]
 cases l.any _
 ·exact⟨_,rfl⟩
 ·exact⟨_,rfl⟩
end Rp
end Go.Am
namespace Go.Am
open Go
set_option linter.unusedVariables false
def Le {α:Type}(x y:R α):Prop:=x=.bad∨x=y
theorem Le.refl {α:Type}(x:R α):Le x x:=.inr rfl
theorem An8 {α:Type}{x y:R α}{a:α}(h:Le x y)(hx:x=.ok a):y=.ok a:=by
 rcases h with h | h
 ·rw [h] at hx; cases hx
 ·rw [← h]; exact hx
theorem Cy {α β:Type}{x y:R α}{f g:α→R β}(h:Le x y)(hf : ∀ a,Le (f a) (g a)):Le (x.bind f) (y.bind g):=by
 rcases h with rfl | rfl
 ·exact .inl rfl
 ·cases x with
  | ok a=>exact hf a
  | pan v=>exact .inr rfl
  | bad=>exact .inl rfl
theorem Dh {α:Type}{c:Prop}[Decidable c]{x y x' y':R α}(h:Le x x')(h':Le y y'):Le (if c then x else y) (if c then x' else y'):=by
 split
 ·exact h
 ·exact h'
theorem Co {α:Type}{x y:R α}{f:PV→R α}(h:Le x y):Le (x.catch' f) (y.catch' f):=by
 rcases h with rfl | rfl
 ·exact .inl rfl
 ·exact .inr rfl
theorem D6 {α:Type}{x y:R α}(h:Le x y):Le x.np y.np:=by
 rcases h with rfl | rfl
 ·exact .inl rfl
 ·exact .inr rfl
theorem Cz {α σ ε:Type}{b b':Nat→α→σ→R (σ ⊕ ε)}(h : ∀ j a s,Le (b j a s) (b' j a s)) : ∀ (k:Nat) (l:List α) (s:σ),Le (each b k l s) (each b' k l s)
 | k,[],s=>.inr rfl
 | k,a::l,s=>by
  rw [N1,N1]
  refine Cy (h k a s) fun x=>?_
  cases x with
  | inl s'=>exact Cz h (k+1) l s'
  | inr e=>exact .inr rfl
theorem Cj {α σ:Type}{b b':Nat→α→σ→R σ}(h : ∀ j a s,Le (b j a s) (b' j a s)) : ∀ (k:Nat) (l:List α) (s:σ),Le (E3 b k l s) (E3 b' k l s)
 | k,[],s=>.inr rfl
 | k,a::l,s=>by
  rw [M5,M5]
  exact Cy (h k a s) fun x=>Cj h (k+1) l x
theorem Ahr {σ ε:Type}{b b':σ→R (σ ⊕ ε)}(h : ∀ s,Le (b s) (b' s)) : ∀ (n:Nat) (s:σ),Le (G7 b n s) (G7 b' n s)
 | 0,s=>.inl rfl
 | n+1,s=>by
  rw [G7,G7]
  refine Cy (h s) fun x=>?_
  cases x with
  | inl s'=>exact Ahr h n s'
  | inr e=>exact .inr rfl
def Tv {σ ε:Type}(n:Nat)(body:σ→R (σ ⊕ ε))(s:σ):R ε:=G7 body n s
theorem C0 {σ ε:Type}{b b':σ→R (σ ⊕ ε)}(h : ∀ s,Le (b s) (b' s))(n:Nat)(s:σ):Le (Tv n b s) (loop b' s):=by
 unfold Tv
 rcases Ahr h n s with e | e
 ·exact .inl e
 ·by_cases hb:G7 b' n s=.bad
  ·exact .inl (e.trans hb)
  ·exact .inr (e.trans (Ra hb).symm)
section
variable {α β γ δ ε ζ κ:Type}
theorem Dj {f f':α→R κ}{g g':β→R κ}(hf : ∀ a,Le (f a) (f' a))(hg : ∀ b,Le (g b) (g' b))(s:α ⊕ β):Le (G9 f g s) (G9 f' g' s):=by
 cases s with
 | inl a=>exact hf a
 | inr b=>exact hg b
theorem Di {f g:α→β→R κ}(h : ∀ a b,Le (f a b) (g a b))(p:α×β):Le (Eu f p) (Eu g p):=h _ _
theorem De {f g:α→β→γ→R κ}(h : ∀ a b c,Le (f a b c) (g a b c))(p:α×β×γ):Le (Kd f p) (Kd g p):=h _ _ _
theorem Dk {f g:α→β→γ→δ→R κ}(h : ∀ a b c d,Le (f a b c d) (g a b c d))(p:α×β×γ×δ):Le (un4 f p) (un4 g p):=h _ _ _ _
theorem Df {f g:α→β→γ→δ→ε→R κ}(h : ∀ a b c d e,Le (f a b c d e) (g a b c d e))(p:α×β×γ×δ×ε):Le (un5 f p) (un5 g p):=h _ _ _ _ _
end
def Aao (a:Int):List Int→List Int
 | []=>[a]
 | b::l=>if a≤b then a::b::l else b::Aao a l
def Wd:List Int→List Int
 | []=>[]
 | a::l=>Aao a (Wd l)
theorem Y0 (a:Int) : ∀ l,(Aao a l).Perm (a::l)
 | []=>.refl _
 | b::l=>by
  unfold Aao
  split
  ·exact .refl _
  ·exact((Y0 a l).cons b).trans (.swap a b l)
theorem Z7 : ∀ l,(Wd l).Perm l
 | []=>.refl _
 | a::l=>(Y0 a (Wd l)).trans ((Z7 l).cons a)
theorem Z0 (a:Int) : ∀ l:List Int,l.Pairwise (· ≤ ·)→(Aao a l).Pairwise (· ≤ ·)
 | [],_=>by simp [Aao]
 | b::l,h=>by
  have h':=List.pairwise_cons.1 h
  unfold Aao
  split
  ·rename_i hab
   refine List.pairwise_cons.2 ⟨fun x hx=>?_,h⟩
   rcases List.mem_cons.1 hx with rfl | hx
   ·exact hab
   ·have:=h'.1 x hx; omega
  ·rename_i hab
   refine List.pairwise_cons.2 ⟨fun x hx=>?_,Z0 a l h'.2⟩
   rcases List.mem_cons.1 ((Y0 a l).mem_iff.1 hx) with rfl | hx
   ·omega
   ·exact h'.1 x hx
theorem Xv : ∀ l:List Int,(Wd l).Pairwise (· ≤ ·)
 | []=>.nil
 | a::l=>Z0 a _ (Xv l)
theorem Xu : ∀ {a b:List Int},a.Perm b→a.Pairwise (· ≤ ·)→b.Pairwise (· ≤ ·)→a=b
 | [],b,h,_,_=>by rw [List.Perm.nil_eq h]
 | x::a,[],h,_,_=>by have:=h.length_eq; simp at this
 | x::a,y::b,h,ha,hb=>by
  have ha':=List.pairwise_cons.1 ha
  have hb':=List.pairwise_cons.1 hb
  have h1:x=y:=by
   have hx:x ∈ y::b:=h.mem_iff.1 (List.mem_cons_self ..)
   have hy:y ∈ x::a:=h.mem_iff.2 (List.mem_cons_self ..)
   rcases List.mem_cons.1 hx with e | hx
   ·exact e
   ·rcases List.mem_cons.1 hy with e | hy
    ·exact e.symm
    ·have:=ha'.1 y hy; have:=hb'.1 x hx; omega
  subst h1
  rw [Xu (List.Perm.cons_inv h) ha'.2 hb'.2]
theorem Cl (l:List Int):Sl l=Wd l:=by
 refine Xu ((List.mergeSort_perm l _).trans (Z7 l).symm) ?_ (Xv l)
 have:=List.pairwise_mergeSort (le:=fun x y:Int=>decide (x≤y)) (fun a b c h1 h2=>by simp at *; omega) (fun a b=>by simp; omega) l
 exact this.imp fun h=>by simpa using h
end Go.Am
namespace Go.Am
open Go
set_option linter.unusedVariables false
set_option maxRecDepth 100000
def Ia (s:List Int):R (List Int):=
 (H4 s).bind fun s1=>
 (P1 s1).bind fun _=>
 .ok (Wd s1)
theorem K3 (s:List Int):Le (Ia s) (E9 s):=by
 unfold Ia E9
 with_reducible repeat' first | exact Le.refl _ | exact hW .. | apply C0 | apply Cy | apply Dh | apply Cz | apply Cj | apply Co | apply Dj | apply Di | apply De | apply Dk | apply Df | apply D6 | (rw [Cl]; exact Le.refl _) | intro _
def Ln (s0_ReplicaID:Int)(s0_ReplicaMany:Int)(s0_ReplicaTerm:Int)(s0_ReplicaVote:Int)(s0_ReplicaRole:Int)(s0_ReplicaCommit:Int)(s0_ReplicaVotes:List Bool)(l:List Record)(l1:List Int):R (Int×(List Record)):=
 (Ff l1).bind fun _=>
 (Ia l1).bind fun l2=>
 (Cd l2 (IntKind.wrap .i64 (Int.tdiv (IntKind.wrap .i64 ((l2.length:Int) - 1)) 2))).bind fun a=>
 if(decide (a > s0_ReplicaCommit)) then
((Cd l (IntKind.wrap .i64 (a - 1))).bind fun a1=>
 Fw s0_ReplicaCommit a (a1.Term==s0_ReplicaTerm) l)
else
(Fw s0_ReplicaCommit a false l)
theorem S6 (s0_ReplicaID:Int)(s0_ReplicaMany:Int)(s0_ReplicaTerm:Int)(s0_ReplicaVote:Int)(s0_ReplicaRole:Int)(s0_ReplicaCommit:Int)(s0_ReplicaVotes:List Bool)(l:List Record)(l1:List Int):Le (Ln s0_ReplicaID s0_ReplicaMany s0_ReplicaTerm s0_ReplicaVote s0_ReplicaRole s0_ReplicaCommit s0_ReplicaVotes l l1) (Gu s0_ReplicaID s0_ReplicaMany s0_ReplicaTerm s0_ReplicaVote s0_ReplicaRole s0_ReplicaCommit s0_ReplicaVotes l l1):=by
 unfold Ln Gu
 with_reducible repeat' first | exact Le.refl _ | exact hW .. | exact K3 .. | apply C0 | apply Cy | apply Dh | apply Cz | apply Cj | apply Co | apply Dj | apply Di | apply De | apply Dk | apply Df | apply D6 | (rw [Cl]; exact Le.refl _) | intro _
def Oo (m:Message)(s_Replica:Replica):R (List Message):=
 (Tv 64 (Eu fun x l=>In m s_Replica x l) (0,[])).bind (fun l1=>Io l1)
theorem Vq (m:Message)(s_Replica:Replica):Le (Oo m s_Replica) (Ig m s_Replica):=by
 unfold Oo Ig
 with_reducible repeat' first | exact Le.refl _ | exact hW .. | apply C0 | apply Cy | apply Dh | apply Cz | apply Cj | apply Co | apply Dj | apply Di | apply De | apply Dk | apply Df | apply D6 | (rw [Cl]; exact Le.refl _) | intro _
def Nj (s0_ReplicaID:Int)(s0_ReplicaMany:Int)(s0_ReplicaTerm:Int)(s0_ReplicaVote:Int)(s0_ReplicaRole:Int)(s0_ReplicaCommit:Int)(s0_ReplicaVotes:List Bool)(s0_ReplicaMatch:List Int)(l:List Record):R (List Message):=
 (Oo ({ Kind:=3,From:=0,To:=0,Term:=0,Last:=0,LastTerm:=0,Log:=l,Commit:=s0_ReplicaCommit,Match:=0,Granted:=false }:Message) ({ ID:=s0_ReplicaID,Many:=s0_ReplicaMany,Term:=s0_ReplicaTerm,Vote:=s0_ReplicaVote,Log:=l,Role:=s0_ReplicaRole,Commit:=s0_ReplicaCommit,Votes:=s0_ReplicaVotes,Match:=s0_ReplicaMatch }:Replica)).bind fun r=>
 .ok r
theorem Va (s0_ReplicaID:Int)(s0_ReplicaMany:Int)(s0_ReplicaTerm:Int)(s0_ReplicaVote:Int)(s0_ReplicaRole:Int)(s0_ReplicaCommit:Int)(s0_ReplicaVotes:List Bool)(s0_ReplicaMatch:List Int)(l:List Record):Le (Nj s0_ReplicaID s0_ReplicaMany s0_ReplicaTerm s0_ReplicaVote s0_ReplicaRole s0_ReplicaCommit s0_ReplicaVotes s0_ReplicaMatch l) (Hv s0_ReplicaID s0_ReplicaMany s0_ReplicaTerm s0_ReplicaVote s0_ReplicaRole s0_ReplicaCommit s0_ReplicaVotes s0_ReplicaMatch l):=by
 unfold Nj Hv
 with_reducible repeat' first | exact Le.refl _ | exact hW .. | exact Vq .. | apply C0 | apply Cy | apply Dh | apply Cz | apply Cj | apply Co | apply Dj | apply Di | apply De | apply Dk | apply Df | apply D6 | (rw [Cl]; exact Le.refl _) | intro _
def O3 (r:Replica)(l:List Record):R (Replica×(List Message)×Int):=
 (J7 r.Match).bind fun r3=>
 (Cd r3 r.ID).bind fun a=>
 (Ln r.ID r.Many r.Term r.Vote r.Role r.Commit r.Votes l (r3.set r.ID.toNat (l.length:Int))).bind fun r4=>
 (Nj r.ID r.Many r.Term r.Vote r.Role r4.1 r.Votes (r3.set r.ID.toNat (l.length:Int)) r4.2).bind fun r5=>
 .ok (({ ID:=r.ID,Many:=r.Many,Term:=r.Term,Vote:=r.Vote,Log:=r4.2,Role:=r.Role,Commit:=r4.1,Votes:=r.Votes,Match:=(r3.set r.ID.toNat (l.length:Int)) }:Replica),r5,0)
theorem Ww (r:Replica)(l:List Record):Le (O3 r l) (Kh r l):=by
 unfold O3 Kh
 with_reducible repeat' first | exact Le.refl _ | exact hW .. | exact S6 .. | exact Va .. | apply C0 | apply Cy | apply Dh | apply Cz | apply Cj | apply Co | apply Dj | apply Di | apply De | apply Dk | apply Df | apply D6 | (rw [Cl]; exact Le.refl _) | intro _
def Od (r:Replica)(data:List Int):R (Replica×(List Message)×Int):=
 (Gl r).bind fun e=>
 if(e != 0) then
(.ok (({ ID:=0,Many:=0,Term:=0,Vote:=0,Log:=[],Role:=0,Commit:=0,Votes:=[],Match:=[] }:Replica),[],e))
else
(if(r.Role != 2) then
(.ok (({ ID:=0,Many:=0,Term:=0,Vote:=0,Log:=[],Role:=0,Commit:=0,Votes:=[],Match:=[] }:Replica),[],470))
else
(if(r.Log.length:Int)≥4096 then
(.ok (({ ID:=0,Many:=0,Term:=0,Vote:=0,Log:=[],Role:=0,Commit:=0,Votes:=[],Match:=[] }:Replica),[],2))
else
((Ew r).bind fun _=>
 (Lz r.Log).bind fun r1=>
 if(r1.length+[({ Term:=r.Term,Data:=data }:Record)].length) * 32≤C2 then
 O3 r (r1++[({ Term:=r.Term,Data:=data }:Record)]) else .bad)))
theorem Y5 (r:Replica)(data:List Int):Le (Od r data) (Kl r data):=by
 unfold Od Kl
 with_reducible repeat' first | exact Le.refl _ | exact hW .. | exact Ww .. | apply C0 | apply Cy | apply Dh | apply Cz | apply Cj | apply Co | apply Dj | apply Di | apply De | apply Dk | apply Df | apply D6 | (rw [Cl]; exact Le.refl _) | intro _
def Jq (s0_ReplicaID:Int)(s0_ReplicaMany:Int)(s0_ReplicaTerm:Int)(s0_ReplicaVote:Int)(s0_ReplicaLog:List Record)(s0_ReplicaRole:Int)(s0_ReplicaCommit:Int)(l:List Bool)(l1:List Int):R Int:=
 (Ff l1).bind fun _=>
 (Ia l1).bind fun l2=>
 (Cd l2 (IntKind.wrap .i64 (Int.tdiv (IntKind.wrap .i64 ((l2.length:Int) - 1)) 2))).bind fun a=>
 if(decide (a > s0_ReplicaCommit)) then
((Cd s0_ReplicaLog (IntKind.wrap .i64 (a - 1))).bind fun a1=>
 F0 s0_ReplicaCommit a (a1.Term==s0_ReplicaTerm))
else
(F0 s0_ReplicaCommit a false)
theorem Ov (s0_ReplicaID:Int)(s0_ReplicaMany:Int)(s0_ReplicaTerm:Int)(s0_ReplicaVote:Int)(s0_ReplicaLog:List Record)(s0_ReplicaRole:Int)(s0_ReplicaCommit:Int)(l:List Bool)(l1:List Int):Le (Jq s0_ReplicaID s0_ReplicaMany s0_ReplicaTerm s0_ReplicaVote s0_ReplicaLog s0_ReplicaRole s0_ReplicaCommit l l1) (Fu s0_ReplicaID s0_ReplicaMany s0_ReplicaTerm s0_ReplicaVote s0_ReplicaLog s0_ReplicaRole s0_ReplicaCommit l l1):=by
 unfold Jq Fu
 with_reducible repeat' first | exact Le.refl _ | exact hW .. | exact K3 .. | apply C0 | apply Cy | apply Dh | apply Cz | apply Cj | apply Co | apply Dj | apply Di | apply De | apply Dk | apply Df | apply D6 | (rw [Cl]; exact Le.refl _) | intro _
def N6 (m:Message)(s_ReplicaID:Int)(s_ReplicaMany:Int)(s_ReplicaTerm:Int)(s_ReplicaVote:Int)(s_ReplicaLog:List Record)(s_ReplicaRole:Int)(s_ReplicaCommit:Int)(s_ReplicaMatch:List Int):R (List Message):=
 (Tv 64 (Eu fun x l=>Ip m s_ReplicaID s_ReplicaMany s_ReplicaTerm s_ReplicaVote s_ReplicaLog s_ReplicaRole s_ReplicaCommit s_ReplicaMatch x l) (0,[])).bind (fun l1=>Iu l1)
theorem Vy (m:Message)(s_ReplicaID:Int)(s_ReplicaMany:Int)(s_ReplicaTerm:Int)(s_ReplicaVote:Int)(s_ReplicaLog:List Record)(s_ReplicaRole:Int)(s_ReplicaCommit:Int)(s_ReplicaMatch:List Int):Le (N6 m s_ReplicaID s_ReplicaMany s_ReplicaTerm s_ReplicaVote s_ReplicaLog s_ReplicaRole s_ReplicaCommit s_ReplicaMatch) (Ih m s_ReplicaID s_ReplicaMany s_ReplicaTerm s_ReplicaVote s_ReplicaLog s_ReplicaRole s_ReplicaCommit s_ReplicaMatch):=by
 unfold N6 Ih
 with_reducible repeat' first | exact Le.refl _ | exact hW .. | apply C0 | apply Cy | apply Dh | apply Cz | apply Cj | apply Co | apply Dj | apply Di | apply De | apply Dk | apply Df | apply D6 | (rw [Cl]; exact Le.refl _) | intro _
def Kv (s_ReplicaID:Int)(s_ReplicaMany:Int)(s_ReplicaTerm:Int)(s_ReplicaVote:Int)(s_ReplicaLog:List Record)(s_ReplicaRole:Int)(s_ReplicaCommit:Int)(s_ReplicaMatch:List Int):R (List Message):=
 (N6 ({ Kind:=3,From:=0,To:=0,Term:=0,Last:=0,LastTerm:=0,Log:=s_ReplicaLog,Commit:=s_ReplicaCommit,Match:=0,Granted:=false }:Message) s_ReplicaID s_ReplicaMany s_ReplicaTerm s_ReplicaVote s_ReplicaLog s_ReplicaRole s_ReplicaCommit s_ReplicaMatch).bind fun r=>
 .ok r
theorem P9 (s_ReplicaID:Int)(s_ReplicaMany:Int)(s_ReplicaTerm:Int)(s_ReplicaVote:Int)(s_ReplicaLog:List Record)(s_ReplicaRole:Int)(s_ReplicaCommit:Int)(s_ReplicaMatch:List Int):Le (Kv s_ReplicaID s_ReplicaMany s_ReplicaTerm s_ReplicaVote s_ReplicaLog s_ReplicaRole s_ReplicaCommit s_ReplicaMatch) (G4 s_ReplicaID s_ReplicaMany s_ReplicaTerm s_ReplicaVote s_ReplicaLog s_ReplicaRole s_ReplicaCommit s_ReplicaMatch):=by
 unfold Kv G4
 with_reducible repeat' first | exact Le.refl _ | exact hW .. | exact Vy .. | apply C0 | apply Cy | apply Dh | apply Cz | apply Cj | apply Co | apply Dj | apply Di | apply De | apply Dk | apply Df | apply D6 | (rw [Cl]; exact Le.refl _) | intro _
def Lq (s0_ReplicaID:Int)(s0_ReplicaMany:Int)(s0_ReplicaTerm:Int)(s0_ReplicaVote:Int)(s0_ReplicaLog:List Record)(s0_ReplicaCommit:Int)(l:List Bool)(l1:List Int):R (Int×(List Int)×(List Message)):=
 (Cd l1 s0_ReplicaID).bind fun a=>
 (Jq s0_ReplicaID s0_ReplicaMany s0_ReplicaTerm s0_ReplicaVote s0_ReplicaLog 2 s0_ReplicaCommit l (l1.set s0_ReplicaID.toNat (s0_ReplicaLog.length:Int))).bind fun r=>
 (Kv s0_ReplicaID s0_ReplicaMany s0_ReplicaTerm s0_ReplicaVote s0_ReplicaLog 2 r (l1.set s0_ReplicaID.toNat (s0_ReplicaLog.length:Int))).bind fun r1=>
 .ok (r,(l1.set s0_ReplicaID.toNat (s0_ReplicaLog.length:Int)),r1)
theorem S8 (s0_ReplicaID:Int)(s0_ReplicaMany:Int)(s0_ReplicaTerm:Int)(s0_ReplicaVote:Int)(s0_ReplicaLog:List Record)(s0_ReplicaCommit:Int)(l:List Bool)(l1:List Int):Le (Lq s0_ReplicaID s0_ReplicaMany s0_ReplicaTerm s0_ReplicaVote s0_ReplicaLog s0_ReplicaCommit l l1) (H8 s0_ReplicaID s0_ReplicaMany s0_ReplicaTerm s0_ReplicaVote s0_ReplicaLog s0_ReplicaCommit l l1):=by
 unfold Lq H8
 with_reducible repeat' first | exact Le.refl _ | exact hW .. | exact Ov .. | exact P9 .. | apply C0 | apply Cy | apply Dh | apply Cz | apply Cj | apply Co | apply Dj | apply Di | apply De | apply Dk | apply Df | apply D6 | (rw [Cl]; exact Le.refl _) | intro _
def Nh (s0_ReplicaID:Int)(s0_ReplicaMany:Int)(s0_ReplicaTerm:Int)(s0_ReplicaVote:Int)(s0_ReplicaLog:List Record)(s0_ReplicaRole:Int)(s0_ReplicaCommit:Int)(s0_ReplicaMatch:List Int)(l:List Bool):R (Int×(List Int)×(List Message)):=
 if(0:Int)≤s0_ReplicaMany∧(s0_ReplicaMany:Int)≤s0_ReplicaMany∧(Int.toNat s0_ReplicaMany) * 8≤C2 then
 Lq s0_ReplicaID s0_ReplicaMany s0_ReplicaTerm s0_ReplicaVote s0_ReplicaLog s0_ReplicaCommit l (List.replicate (Int.toNat s0_ReplicaMany) (0:Int)) else .bad
theorem Uz (s0_ReplicaID:Int)(s0_ReplicaMany:Int)(s0_ReplicaTerm:Int)(s0_ReplicaVote:Int)(s0_ReplicaLog:List Record)(s0_ReplicaRole:Int)(s0_ReplicaCommit:Int)(s0_ReplicaMatch:List Int)(l:List Bool):Le (Nh s0_ReplicaID s0_ReplicaMany s0_ReplicaTerm s0_ReplicaVote s0_ReplicaLog s0_ReplicaRole s0_ReplicaCommit s0_ReplicaMatch l) (G5 s0_ReplicaID s0_ReplicaMany s0_ReplicaTerm s0_ReplicaVote s0_ReplicaLog s0_ReplicaRole s0_ReplicaCommit s0_ReplicaMatch l):=by
 unfold Nh G5
 with_reducible repeat' first | exact Le.refl _ | exact hW .. | exact S8 .. | apply C0 | apply Cy | apply Dh | apply Cz | apply Cj | apply Co | apply Dj | apply Di | apply De | apply Dk | apply Df | apply D6 | (rw [Cl]; exact Le.refl _) | intro _
def Ht (m:Message)(s_Replica:Replica)(x:Bool):R (Int×Int×(List Bool)×(List Int)×(List Message)):=
 if x then
(.ok (s_Replica.Role,s_Replica.Commit,s_Replica.Votes,s_Replica.Match,[]))
else
((Nb s_Replica.Votes).bind fun r=>
 (Cd r m.From).bind fun a=>
 (E3 (fun j _=>Eu fun n x2=>H6 j n x2) 0 (r.set m.From.toNat true) (0,(r.set m.From.toNat true))).bind ((Eu fun n x2=>if(IntKind.wrap .i64 (2 * n)) > s_Replica.Many then
((Nh s_Replica.ID s_Replica.Many s_Replica.Term s_Replica.Vote s_Replica.Log s_Replica.Role s_Replica.Commit s_Replica.Match x2).bind fun r1=>
 .ok (2,r1.1,x2,r1.2.1,r1.2.2))
else
(.ok (s_Replica.Role,s_Replica.Commit,x2,s_Replica.Match,[])))))
theorem Td (m:Message)(s_Replica:Replica)(x:Bool):Le (Ht m s_Replica x) (Fv m s_Replica x):=by
 unfold Ht Fv
 with_reducible repeat' first | exact Le.refl _ | exact hW .. | exact Uz .. | apply C0 | apply Cy | apply Dh | apply Cz | apply Cj | apply Co | apply Dj | apply Di | apply De | apply Dk | apply Df | apply D6 | (rw [Cl]; exact Le.refl _) | intro _
def Nf (m:Message)(s_Replica:Replica):R (Int×Int×(List Bool)×(List Int)×(List Message)):=
 if(s_Replica.Role != 1) then
(Ht m s_Replica true)
else
(if(m.Term != s_Replica.Term) then
(Ht m s_Replica true)
else
(Ht m s_Replica (!m.Granted)))
theorem Uy (m:Message)(s_Replica:Replica):Le (Nf m s_Replica) (Hy m s_Replica):=by
 unfold Nf Hy
 with_reducible repeat' first | exact Le.refl _ | exact hW .. | exact Td .. | apply C0 | apply Cy | apply Dh | apply Cz | apply Cj | apply Co | apply Dj | apply Di | apply De | apply Dk | apply Df | apply D6 | (rw [Cl]; exact Le.refl _) | intro _
def Qd {σ_ ε_:Type}(b:List Record)(c:List Record)(b_:Record→Record→σ_→R (σ_ ⊕ ε_))(s_:σ_):R (σ_ ⊕ ε_):=
 (Tv 64 (Eu fun x s=>J0 b c b_ x s) (0,s_)).bind (G9 (fun s2=>Jy s2) (fun r=>.ok r))
theorem X1 {σ_ ε_:Type}(b:List Record)(c:List Record)(b_:Record→Record→σ_→R (σ_ ⊕ ε_))(s_:σ_):Le (Qd b c b_ s_) (J6 b c b_ s_):=by
 unfold Qd J6
 with_reducible repeat' first | exact Le.refl _ | exact hW .. | apply C0 | apply Cy | apply Dh | apply Cz | apply Cj | apply Co | apply Dj | apply Di | apply De | apply Dk | apply Df | apply D6 | (rw [Cl]; exact Le.refl _) | intro _
def Pd (a:List Record)(b:List Record):R Bool:=
 (Mo a b).bind fun _=>
 (Qd a b (fun a1 a2 z_=>R.np ((fun _=>Nc a1 a2) z_)) ()).bind (G9 (fun _=>.ok (decide ((a.length:Int)≤(b.length:Int)))) (fun _=>.ok false))
theorem Zx (a:List Record)(b:List Record):Le (Pd a b) (Lk a b):=by
 unfold Pd Lk
 with_reducible repeat' first | exact Le.refl _ | exact hW .. | exact X1 .. | apply C0 | apply Cy | apply Dh | apply Cz | apply Cj | apply Co | apply Dj | apply Di | apply De | apply Dk | apply Df | apply D6 | (rw [Cl]; exact Le.refl _) | intro _
def L8 (m:Message)(s_Replica:Replica):R ((List Record)×Int×Int×(List Bool)×(List Int)×(List Message)):=
 if m.Term<s_Replica.Term then
((Hw m.From 4 0 0 0 0 0 0 0 false s_Replica).bind fun r=>
 .ok (s_Replica.Log,s_Replica.Role,s_Replica.Commit,s_Replica.Votes,s_Replica.Match,r))
else
(if(s_Replica.Role==2) then
(.ok (s_Replica.Log,s_Replica.Role,s_Replica.Commit,s_Replica.Votes,s_Replica.Match,[]))
else
((C3 s_Replica).bind fun r1=>
 (Pd m.Log s_Replica.Log).bind fun r2=>
 if r2 then
(Gf m s_Replica r1 s_Replica.Log)
else
(if(0:Int)≤s_Replica.Commit∧s_Replica.Commit≤(s_Replica.Log.length:Int) then
 (Pd (s_Replica.Log.take (Int.toNat s_Replica.Commit)) m.Log).bind fun r3=>
 (Bm r3 470).bind fun _=>
 Gf m s_Replica r1 m.Log else .bad)))
theorem Tw (m:Message)(s_Replica:Replica):Le (L8 m s_Replica) (He m s_Replica):=by
 unfold L8 He
 with_reducible repeat' first | exact Le.refl _ | exact hW .. | exact Zx .. | apply C0 | apply Cy | apply Dh | apply Cz | apply Cj | apply Co | apply Dj | apply Di | apply De | apply Dk | apply Df | apply D6 | (rw [Cl]; exact Le.refl _) | intro _
def Lx (s0_ReplicaID:Int)(s0_ReplicaMany:Int)(s0_ReplicaTerm:Int)(s0_ReplicaVote:Int)(s0_ReplicaLog:List Record)(s0_ReplicaRole:Int)(s0_ReplicaCommit:Int)(s0_ReplicaVotes:List Bool)(l:List Int):R Replica:=
 (Ff l).bind fun _=>
 (Ia l).bind fun l1=>
 (Cd l1 (IntKind.wrap .i64 (Int.tdiv (IntKind.wrap .i64 ((l1.length:Int) - 1)) 2))).bind fun a=>
 if(decide (a > s0_ReplicaCommit)) then
((Cd s0_ReplicaLog (IntKind.wrap .i64 (a - 1))).bind fun a1=>
 Fx s0_ReplicaID s0_ReplicaMany s0_ReplicaTerm s0_ReplicaVote s0_ReplicaLog s0_ReplicaRole s0_ReplicaCommit s0_ReplicaVotes l a (a1.Term==s0_ReplicaTerm))
else
(Fx s0_ReplicaID s0_ReplicaMany s0_ReplicaTerm s0_ReplicaVote s0_ReplicaLog s0_ReplicaRole s0_ReplicaCommit s0_ReplicaVotes l a false)
theorem Tg (s0_ReplicaID:Int)(s0_ReplicaMany:Int)(s0_ReplicaTerm:Int)(s0_ReplicaVote:Int)(s0_ReplicaLog:List Record)(s0_ReplicaRole:Int)(s0_ReplicaCommit:Int)(s0_ReplicaVotes:List Bool)(l:List Int):Le (Lx s0_ReplicaID s0_ReplicaMany s0_ReplicaTerm s0_ReplicaVote s0_ReplicaLog s0_ReplicaRole s0_ReplicaCommit s0_ReplicaVotes l) (Gw s0_ReplicaID s0_ReplicaMany s0_ReplicaTerm s0_ReplicaVote s0_ReplicaLog s0_ReplicaRole s0_ReplicaCommit s0_ReplicaVotes l):=by
 unfold Lx Gw
 with_reducible repeat' first | exact Le.refl _ | exact hW .. | exact K3 .. | apply C0 | apply Cy | apply Dh | apply Cz | apply Cj | apply Co | apply Dj | apply Di | apply De | apply Dk | apply Df | apply D6 | (rw [Cl]; exact Le.refl _) | intro _
def H2 (m:Message)(s_Replica:Replica)(x:Bool):R Replica:=
 if x then
(.ok s_Replica)
else
((Bm (decide (m.Match≤(s_Replica.Log.length:Int))) 470).bind fun _=>
 (J7 s_Replica.Match).bind fun r1=>
 (Cd r1 m.From).bind fun a=>
 (Lx s_Replica.ID s_Replica.Many s_Replica.Term s_Replica.Vote s_Replica.Log s_Replica.Role s_Replica.Commit s_Replica.Votes (r1.set m.From.toNat (if m.Match > a then m.Match else a))).bind fun r2=>
 .ok r2)
theorem Tr (m:Message)(s_Replica:Replica)(x:Bool):Le (H2 m s_Replica x) (Gb m s_Replica x):=by
 unfold H2 Gb
 with_reducible repeat' first | exact Le.refl _ | exact hW .. | exact Tg .. | apply C0 | apply Cy | apply Dh | apply Cz | apply Cj | apply Co | apply Dj | apply Di | apply De | apply Dk | apply Df | apply D6 | (rw [Cl]; exact Le.refl _) | intro _
def Oh (m:Message)(s_Replica:Replica):R Replica:=
 if(s_Replica.Role != 2) then
(H2 m s_Replica true)
else
(if(m.Term != s_Replica.Term) then
(H2 m s_Replica true)
else
(H2 m s_Replica (!m.Granted)))
theorem Vu (m:Message)(s_Replica:Replica):Le (Oh m s_Replica) (If m s_Replica):=by
 unfold Oh If
 with_reducible repeat' first | exact Le.refl _ | exact hW .. | exact Tr .. | apply C0 | apply Cy | apply Dh | apply Cz | apply Cj | apply Co | apply Dj | apply Di | apply De | apply Dk | apply Df | apply D6 | (rw [Cl]; exact Le.refl _) | intro _
def Ly (m:Message)(vID1:Int)(vMany1:Int)(vTerm1:Int)(vVote1:Int)(vLog1:List Record)(vRole1:Int)(vCommit1:Int)(vVotes1:List Bool)(vMatch1:List Int):R (Replica×(List Message)×Int):=
 if m.Kind=0 then
(.bad)
else
(if m.Kind=1 then
((Jz m ({ ID:=vID1,Many:=vMany1,Term:=vTerm1,Vote:=vVote1,Log:=vLog1,Role:=vRole1,Commit:=vCommit1,Votes:=vVotes1,Match:=vMatch1 }:Replica)).bind fun r10=>
 .ok (r10.1,r10.2,0))
else
(if m.Kind=2 then
((Nf m ({ ID:=vID1,Many:=vMany1,Term:=vTerm1,Vote:=vVote1,Log:=vLog1,Role:=vRole1,Commit:=vCommit1,Votes:=vVotes1,Match:=vMatch1 }:Replica)).bind fun r11=>
 .ok (({ ID:=(({ ID:=vID1,Many:=vMany1,Term:=vTerm1,Vote:=vVote1,Log:=vLog1,Role:=vRole1,Commit:=vCommit1,Votes:=vVotes1,Match:=vMatch1 }:Replica).ID),Many:=(({ ID:=vID1,Many:=vMany1,Term:=vTerm1,Vote:=vVote1,Log:=vLog1,Role:=vRole1,Commit:=vCommit1,Votes:=vVotes1,Match:=vMatch1 }:Replica).Many),Term:=(({ ID:=vID1,Many:=vMany1,Term:=vTerm1,Vote:=vVote1,Log:=vLog1,Role:=vRole1,Commit:=vCommit1,Votes:=vVotes1,Match:=vMatch1 }:Replica).Term),Vote:=(({ ID:=vID1,Many:=vMany1,Term:=vTerm1,Vote:=vVote1,Log:=vLog1,Role:=vRole1,Commit:=vCommit1,Votes:=vVotes1,Match:=vMatch1 }:Replica).Vote),Log:=(({ ID:=vID1,Many:=vMany1,Term:=vTerm1,Vote:=vVote1,Log:=vLog1,Role:=vRole1,Commit:=vCommit1,Votes:=vVotes1,Match:=vMatch1 }:Replica).Log),Role:=r11.1,Commit:=r11.2.1,Votes:=r11.2.2.1,Match:=r11.2.2.2.1 }:Replica),r11.2.2.2.2,0))
else
(if m.Kind=3 then
((L8 m ({ ID:=vID1,Many:=vMany1,Term:=vTerm1,Vote:=vVote1,Log:=vLog1,Role:=vRole1,Commit:=vCommit1,Votes:=vVotes1,Match:=vMatch1 }:Replica)).bind fun r12=>
 .ok (({ ID:=(({ ID:=vID1,Many:=vMany1,Term:=vTerm1,Vote:=vVote1,Log:=vLog1,Role:=vRole1,Commit:=vCommit1,Votes:=vVotes1,Match:=vMatch1 }:Replica).ID),Many:=(({ ID:=vID1,Many:=vMany1,Term:=vTerm1,Vote:=vVote1,Log:=vLog1,Role:=vRole1,Commit:=vCommit1,Votes:=vVotes1,Match:=vMatch1 }:Replica).Many),Term:=(({ ID:=vID1,Many:=vMany1,Term:=vTerm1,Vote:=vVote1,Log:=vLog1,Role:=vRole1,Commit:=vCommit1,Votes:=vVotes1,Match:=vMatch1 }:Replica).Term),Vote:=(({ ID:=vID1,Many:=vMany1,Term:=vTerm1,Vote:=vVote1,Log:=vLog1,Role:=vRole1,Commit:=vCommit1,Votes:=vVotes1,Match:=vMatch1 }:Replica).Vote),Log:=r12.1,Role:=r12.2.1,Commit:=r12.2.2.1,Votes:=r12.2.2.2.1,Match:=r12.2.2.2.2.1 }:Replica),r12.2.2.2.2.2,0))
else
(if m.Kind=4 then
((Oh m ({ ID:=vID1,Many:=vMany1,Term:=vTerm1,Vote:=vVote1,Log:=vLog1,Role:=vRole1,Commit:=vCommit1,Votes:=vVotes1,Match:=vMatch1 }:Replica)).bind fun r13=>
 .ok (r13,[],0))
else
(.bad)))))
theorem Wv (m:Message)(vID1:Int)(vMany1:Int)(vTerm1:Int)(vVote1:Int)(vLog1:List Record)(vRole1:Int)(vCommit1:Int)(vVotes1:List Bool)(vMatch1:List Int):Le (Ly m vID1 vMany1 vTerm1 vVote1 vLog1 vRole1 vCommit1 vVotes1 vMatch1) (Dq m vID1 vMany1 vTerm1 vVote1 vLog1 vRole1 vCommit1 vVotes1 vMatch1):=by
 unfold Ly Dq
 with_reducible repeat' first | exact Le.refl _ | exact hW .. | exact Tw .. | exact Uy .. | exact Vu .. | apply C0 | apply Cy | apply Dh | apply Cz | apply Cj | apply Co | apply Dj | apply Di | apply De | apply Dk | apply Df | apply D6 | (rw [Cl]; exact Le.refl _) | intro _
def Pt (r:Replica)(m:Message):R (Replica×(List Message)×Int):=
 (Gl r).bind fun r1=>
 if(r1 != 0) then
(.ok (({ ID:=0,Many:=0,Term:=0,Vote:=0,Log:=[],Role:=0,Commit:=0,Votes:=[],Match:=[] }:Replica),[],r1))
else
((Bv m.Kind 1 4).bind fun r2=>
 (if(r2&&(m.To==r.ID)) then(Bv m.From 0 (IntKind.wrap .i64 (r.Many - 1))).bind fun r3=>
 R.ok r3 else R.ok false).bind (fun(b:Bool)=>(if(b&&(m.From != r.ID)) then(Bv m.Term 1 1048576).bind fun r4=>
 R.ok r4 else R.ok false).bind (fun(b1:Bool)=>(Bm b1 470).bind fun _=>
 (if(decide ((if m.Match<(if m.LastTerm<m.Last then m.LastTerm else m.Last) then m.Match else(if m.LastTerm<m.Last then m.LastTerm else m.Last))≥0)) then(Bv m.Commit 0 (m.Log.length:Int)).bind fun r6=>
 R.ok r6 else R.ok false).bind (fun(b2:Bool)=>(if b2 then(Hs m.Log m.Term).bind fun r7=>
 R.ok r7 else R.ok false).bind (fun(b3:Bool)=>(Bm b3 470).bind fun _=>
 (Ew r).bind fun _=>
 if m.Term > r.Term then
((C3 ({ ID:=r.ID,Many:=r.Many,Term:=m.Term,Vote:=(-1),Log:=r.Log,Role:=r.Role,Commit:=r.Commit,Votes:=r.Votes,Match:=r.Match }:Replica)).bind fun r9=>
 Ly m (({ ID:=r.ID,Many:=r.Many,Term:=m.Term,Vote:=(-1),Log:=r.Log,Role:=r.Role,Commit:=r.Commit,Votes:=r.Votes,Match:=r.Match }:Replica).ID) (({ ID:=r.ID,Many:=r.Many,Term:=m.Term,Vote:=(-1),Log:=r.Log,Role:=r.Role,Commit:=r.Commit,Votes:=r.Votes,Match:=r.Match }:Replica).Many) (({ ID:=r.ID,Many:=r.Many,Term:=m.Term,Vote:=(-1),Log:=r.Log,Role:=r.Role,Commit:=r.Commit,Votes:=r.Votes,Match:=r.Match }:Replica).Term) (({ ID:=r.ID,Many:=r.Many,Term:=m.Term,Vote:=(-1),Log:=r.Log,Role:=r.Role,Commit:=r.Commit,Votes:=r.Votes,Match:=r.Match }:Replica).Vote) (({ ID:=r.ID,Many:=r.Many,Term:=m.Term,Vote:=(-1),Log:=r.Log,Role:=r.Role,Commit:=r.Commit,Votes:=r.Votes,Match:=r.Match }:Replica).Log) 0 (({ ID:=r.ID,Many:=r.Many,Term:=m.Term,Vote:=(-1),Log:=r.Log,Role:=r.Role,Commit:=r.Commit,Votes:=r.Votes,Match:=r.Match }:Replica).Commit) r9.1 r9.2)
else
(Ly m r.ID r.Many r.Term r.Vote r.Log r.Role r.Commit r.Votes r.Match))))))
theorem W8 (r:Replica)(m:Message):Le (Pt r m) (K0 r m):=by
 unfold Pt K0
 with_reducible repeat' first | exact Le.refl _ | exact hW .. | exact Wv .. | apply C0 | apply Cy | apply Dh | apply Cz | apply Cj | apply Co | apply Dj | apply Di | apply De | apply Dk | apply Df | apply D6 | (rw [Cl]; exact Le.refl _) | intro _
def Ob (r:Replica)(m:Message):R (Replica×(List Message)×Int):=
 (Pt r m).catch' (H9 105 .i64 (fun n=>(Ee n).bind fun p=>.ok (({ ID:=0,Many:=0,Term:=0,Vote:=0,Log:=[],Role:=0,Commit:=0,Votes:=[],Match:=[] }:Replica),[],p)) (fun _=>.bad))
theorem Yk (r:Replica)(m:Message):Le (Ob r m) (Mr r m):=by
 unfold Ob Mr
 with_reducible repeat' first | exact Le.refl _ | exact hW .. | exact W8 .. | apply C0 | apply Cy | apply Dh | apply Cz | apply Cj | apply Co | apply Dj | apply Di | apply De | apply Dk | apply Df | apply D6 | (rw [Cl]; exact Le.refl _) | intro _
def Lr (s0_ReplicaID:Int)(s0_ReplicaMany:Int)(s0_ReplicaTerm:Int)(s0_ReplicaVote:Int)(s0_ReplicaLog:List Record)(s0_ReplicaCommit:Int)(l:List Bool)(l1:List Int):R (Int×(List Int)×(List Message)):=
 (Cd l1 s0_ReplicaID).bind fun a=>
 (Jq s0_ReplicaID s0_ReplicaMany s0_ReplicaTerm s0_ReplicaVote s0_ReplicaLog 2 s0_ReplicaCommit l (l1.set s0_ReplicaID.toNat (s0_ReplicaLog.length:Int))).bind fun r=>
 (Kv s0_ReplicaID s0_ReplicaMany s0_ReplicaTerm s0_ReplicaVote s0_ReplicaLog 2 r (l1.set s0_ReplicaID.toNat (s0_ReplicaLog.length:Int))).bind fun r1=>
 .ok (r,(l1.set s0_ReplicaID.toNat (s0_ReplicaLog.length:Int)),r1)
theorem Th (s0_ReplicaID:Int)(s0_ReplicaMany:Int)(s0_ReplicaTerm:Int)(s0_ReplicaVote:Int)(s0_ReplicaLog:List Record)(s0_ReplicaCommit:Int)(l:List Bool)(l1:List Int):Le (Lr s0_ReplicaID s0_ReplicaMany s0_ReplicaTerm s0_ReplicaVote s0_ReplicaLog s0_ReplicaCommit l l1) (H7 s0_ReplicaID s0_ReplicaMany s0_ReplicaTerm s0_ReplicaVote s0_ReplicaLog s0_ReplicaCommit l l1):=by
 unfold Lr H7
 with_reducible repeat' first | exact Le.refl _ | exact hW .. | exact Ov .. | exact P9 .. | apply C0 | apply Cy | apply Dh | apply Cz | apply Cj | apply Co | apply Dj | apply Di | apply De | apply Dk | apply Df | apply D6 | (rw [Cl]; exact Le.refl _) | intro _
def Ns (s0_ReplicaID:Int)(s0_ReplicaMany:Int)(s0_ReplicaTerm:Int)(s0_ReplicaVote:Int)(s0_ReplicaLog:List Record)(s0_ReplicaRole:Int)(s0_ReplicaCommit:Int)(l:List Bool):R (Int×(List Int)×(List Message)):=
 if(0:Int)≤s0_ReplicaMany∧(s0_ReplicaMany:Int)≤s0_ReplicaMany∧(Int.toNat s0_ReplicaMany) * 8≤C2 then
 Lr s0_ReplicaID s0_ReplicaMany s0_ReplicaTerm s0_ReplicaVote s0_ReplicaLog s0_ReplicaCommit l (List.replicate (Int.toNat s0_ReplicaMany) (0:Int)) else .bad
theorem U7 (s0_ReplicaID:Int)(s0_ReplicaMany:Int)(s0_ReplicaTerm:Int)(s0_ReplicaVote:Int)(s0_ReplicaLog:List Record)(s0_ReplicaRole:Int)(s0_ReplicaCommit:Int)(l:List Bool):Le (Ns s0_ReplicaID s0_ReplicaMany s0_ReplicaTerm s0_ReplicaVote s0_ReplicaLog s0_ReplicaRole s0_ReplicaCommit l) (H0 s0_ReplicaID s0_ReplicaMany s0_ReplicaTerm s0_ReplicaVote s0_ReplicaLog s0_ReplicaRole s0_ReplicaCommit l):=by
 unfold Ns H0
 with_reducible repeat' first | exact Le.refl _ | exact hW .. | exact Th .. | apply C0 | apply Cy | apply Dh | apply Cz | apply Cj | apply Co | apply Dj | apply Di | apply De | apply Dk | apply Df | apply D6 | (rw [Cl]; exact Le.refl _) | intro _
def Om (mKind:Int)(mFrom:Int)(mTo:Int)(mTerm:Int)(mLast:Int)(mLastTerm:Int)(mCommit:Int)(mMatch:Int)(mGranted:Bool)(s_ReplicaID:Int)(s_ReplicaMany:Int)(s_ReplicaTerm:Int)(s_ReplicaVote:Int)(s_ReplicaLog:List Record)(s_ReplicaRole:Int)(s_ReplicaCommit:Int):R (List Message):=
 (Tv 64 (Eu fun x l=>It mKind mFrom mTo mTerm mLast mLastTerm mCommit mMatch mGranted s_ReplicaID s_ReplicaMany s_ReplicaTerm s_ReplicaVote s_ReplicaLog s_ReplicaRole s_ReplicaCommit x l) (0,[])).bind (fun l1=>Ir l1)
theorem Vo (mKind:Int)(mFrom:Int)(mTo:Int)(mTerm:Int)(mLast:Int)(mLastTerm:Int)(mCommit:Int)(mMatch:Int)(mGranted:Bool)(s_ReplicaID:Int)(s_ReplicaMany:Int)(s_ReplicaTerm:Int)(s_ReplicaVote:Int)(s_ReplicaLog:List Record)(s_ReplicaRole:Int)(s_ReplicaCommit:Int):Le (Om mKind mFrom mTo mTerm mLast mLastTerm mCommit mMatch mGranted s_ReplicaID s_ReplicaMany s_ReplicaTerm s_ReplicaVote s_ReplicaLog s_ReplicaRole s_ReplicaCommit) (Ij mKind mFrom mTo mTerm mLast mLastTerm mCommit mMatch mGranted s_ReplicaID s_ReplicaMany s_ReplicaTerm s_ReplicaVote s_ReplicaLog s_ReplicaRole s_ReplicaCommit):=by
 unfold Om Ij
 with_reducible repeat' first | exact Le.refl _ | exact hW .. | apply C0 | apply Cy | apply Dh | apply Cz | apply Cj | apply Co | apply Dj | apply Di | apply De | apply Dk | apply Df | apply D6 | (rw [Cl]; exact Le.refl _) | intro _
def On (r:Replica):R (Replica×(List Message)×Int):=
 (Gl r).bind fun e=>
 if(e != 0) then
(.ok (({ ID:=0,Many:=0,Term:=0,Vote:=0,Log:=[],Role:=0,Commit:=0,Votes:=[],Match:=[] }:Replica),[],e))
else
(if(r.Term==1048576) then
(.ok (({ ID:=0,Many:=0,Term:=0,Vote:=0,Log:=[],Role:=0,Commit:=0,Votes:=[],Match:=[] }:Replica),[],2))
else
((Ew r).bind fun _=>
 (C3 r).bind fun r1=>
 (Cd r1.1 r.ID).bind fun a=>
 if(r.Many==1) then
((Ns r.ID r.Many (IntKind.wrap .i64 (r.Term+1)) r.ID r.Log 1 r.Commit (r1.1.set r.ID.toNat true)).bind fun r2=>
 .ok (({ ID:=r.ID,Many:=r.Many,Term:=(IntKind.wrap .i64 (r.Term+1)),Vote:=r.ID,Log:=r.Log,Role:=2,Commit:=r2.1,Votes:=(r1.1.set r.ID.toNat true),Match:=r2.2.1 }:Replica),r2.2.2,0))
else
((I1 ({ Replica:=({ ID:=r.ID,Many:=r.Many,Term:=(IntKind.wrap .i64 (r.Term+1)),Vote:=r.ID,Log:=r.Log,Role:=1,Commit:=r.Commit,Votes:=(r1.1.set r.ID.toNat true),Match:=r1.2 }:Replica),fSent:=[] }:T87)).bind fun r3=>
 (Om 1 0 0 0 (r.Log.length:Int) r3 0 0 false r.ID r.Many (IntKind.wrap .i64 (r.Term+1)) r.ID r.Log 1 r.Commit).bind fun r4=>
 .ok (({ ID:=r.ID,Many:=r.Many,Term:=(IntKind.wrap .i64 (r.Term+1)),Vote:=r.ID,Log:=r.Log,Role:=1,Commit:=r.Commit,Votes:=(r1.1.set r.ID.toNat true),Match:=r1.2 }:Replica),r4,0))))
theorem Ys (r:Replica):Le (On r) (Kk r):=by
 unfold On Kk
 with_reducible repeat' first | exact Le.refl _ | exact hW .. | exact U7 .. | exact Vo .. | apply C0 | apply Cy | apply Dh | apply Cz | apply Cj | apply Co | apply Dj | apply Di | apply De | apply Dk | apply Df | apply D6 | (rw [Cl]; exact Le.refl _) | intro _
def Q0 (W_:Value→R (Int×Bool))(a:Value)(depth:Int):R (Int ⊕ (Int×Bool)):=
 (W_ a).bind fun r=>
 if r.2 then
(.ok (.inl (if r.1 > depth then r.1 else depth)))
else
(.ok (.inr ((0,false))))
theorem Yr {W' W_:Value→R (Int×Bool)}(hW : ∀ w0,Le (W' w0) (W_ w0))(a:Value)(depth:Int):Le (Q0 W' a depth) (Ga W_ a depth):=by
 unfold Q0 Ga
 with_reducible repeat' first | exact Le.refl _ | exact hW .. | apply C0 | apply Cy | apply Dh | apply Cz | apply Cj | apply Co | apply Dj | apply Di | apply De | apply Dk | apply Df | apply D6 | (rw [Cl]; exact Le.refl _) | intro _
def Rq (W_:Value→R (Int×Bool))(v:Value):R (Int×Bool):=
 (if((decide (v.Kind<1))||(decide (v.Kind > 3))) then R.ok true else if(0:Int)≤v.Kind∧v.Kind<4 then
 R.ok (!(Yq (#v[false,((v.S==[])&&((v.L.length:Int)==0)),((v.N==0)&&((v.L.length:Int)==0)),((v.N==0)&&(v.S==[]))]:(Vector Bool 4)) (Int.toNat v.Kind) false)) else .bad).bind (fun(b:Bool)=>if b then
(.ok (0,false))
else
(if v.Kind<3 then
(.ok (0,true))
else
((each (fun _ a=>fun depth=>Q0 W_ a depth) 0 v.L 0).bind (G9 (fun depth=>.ok ((IntKind.wrap .i64 (depth+1)),true)) (fun r=>.ok r)))))
theorem Zq {W' W_:Value→R (Int×Bool)}(hW : ∀ w0,Le (W' w0) (W_ w0))(v:Value):Le (Rq W' v) (Ix W_ v):=by
 unfold Rq Ix
 with_reducible repeat' first | exact Le.refl _ | exact hW .. | exact Yr (by assumption) .. | apply C0 | apply Cy | apply Dh | apply Cz | apply Cj | apply Co | apply Dj | apply Di | apply De | apply Dk | apply Df | apply D6 | (rw [Cl]; exact Le.refl _) | intro _
def Rk:Nat→Value→R (Int×Bool)
 | 0,_=>.bad
 | n+1,v=>Rq (Rk n) v
theorem Ti : ∀ (n k:Nat) a0,Le (Rk n a0) (H1 (n+k) a0)
 | 0,k,a0=>.inl rfl
 | n+1,k,a0=>by
  rw [show n+1+k=(n+k)+1 by omega]
  exact Zq (fun a0=>Ti n k a0) a0
def Ta (v:Value):R (Int×Bool):=Rk 16 v
theorem Acg (v:Value):Le (Ta v) (Ph v):=by
 unfold Ta Ph
 rw [Me]
 exact Ti 16 (4000000 - 16) v
def Uf (v:Value):R Int:=
 (Ta v).bind fun r=>
 if r.2 then
(if r.1 > 16 then
(.ok 2)
else
(.ok 0))
else
(.ok 1)
theorem Acp (v:Value):Le (Uf v) (Mv v):=by
 unfold Uf Mv
 with_reducible repeat' first | exact Le.refl _ | exact hW .. | exact Acg .. | apply C0 | apply Cy | apply Dh | apply Cz | apply Cj | apply Co | apply Dj | apply Di | apply De | apply Dk | apply Df | apply D6 | (rw [Cl]; exact Le.refl _) | intro _
def J4 (u:Int)(l:List Int):R (List Int):=
 (Tv 64 (Eu fun u1 b=>E6 u1 b) (u,l)).bind (Eu fun u2 b1=>Hr u2 b1)
theorem Mj (u:Int)(l:List Int):Le (J4 u l) (F9 u l):=by
 unfold J4 F9
 with_reducible repeat' first | exact Le.refl _ | exact hW .. | apply C0 | apply Cy | apply Dh | apply Cz | apply Cj | apply Co | apply Dj | apply Di | apply De | apply Dk | apply Df | apply D6 | (rw [Cl]; exact Le.refl _) | intro _
def Iz (v1:Value)(l:List Int):R (List Int):=
 if(l.length+[1].length) * 1≤C2 then
 (Lh v1.N).bind fun r=>
 (J4 r (l++[1])).bind fun r1=>
 .ok r1 else .bad
theorem Md (v1:Value)(l:List Int):Le (Iz v1 l) (Em v1 l):=by
 unfold Iz Em
 with_reducible repeat' first | exact Le.refl _ | exact hW .. | exact Mj .. | apply C0 | apply Cy | apply Dh | apply Cz | apply Cj | apply Co | apply Dj | apply Di | apply De | apply Dk | apply Df | apply D6 | (rw [Cl]; exact Le.refl _) | intro _
def I4 (v1:Value)(l:List Int):R (List Int):=
 if(l.length+[2].length) * 1≤C2 then
 (J4 (IntKind.wrap .u64 (v1.S.length:Int)) (l++[2])).bind fun r=>
 if(r.length+(Cx v1.S).length) * 1≤C2 then
 .ok (r++(Cx v1.S)) else .bad else .bad
theorem L3 (v1:Value)(l:List Int):Le (I4 v1 l) (Ek v1 l):=by
 unfold I4 Ek
 with_reducible repeat' first | exact Le.refl _ | exact hW .. | exact Mj .. | apply C0 | apply Cy | apply Dh | apply Cz | apply Cj | apply Co | apply Dj | apply Di | apply De | apply Dk | apply Df | apply D6 | (rw [Cl]; exact Le.refl _) | intro _
def Lt (W_:Value→(List Int)→R (List Int))(a:Value)(b1:List Int):R (List Int):=
 if a.Kind=0 then
(.bad)
else
(if a.Kind=1 then
((Iz a b1).bind fun b2=>
 .ok b2)
else
(if a.Kind=2 then
((I4 a b1).bind fun b3=>
 .ok b3)
else
(if a.Kind=3 then
((W_ a b1).bind fun b4=>
 .ok b4)
else
(.bad))))
theorem Tb {W' W_:Value→(List Int)→R (List Int)}(hW : ∀ w0 w1,Le (W' w0 w1) (W_ w0 w1))(a:Value)(b1:List Int):Le (Lt W' a b1) (Dz W_ a b1):=by
 unfold Lt Dz
 with_reducible repeat' first | exact Le.refl _ | exact hW .. | exact Md .. | exact L3 .. | apply C0 | apply Cy | apply Dh | apply Cz | apply Cj | apply Co | apply Dj | apply Di | apply De | apply Dk | apply Df | apply D6 | (rw [Cl]; exact Le.refl _) | intro _
def L4 (W_:Value→(List Int)→R (List Int))(v1:Value)(l:List Int):R (List Int):=
 if(l.length+[3].length) * 1≤C2 then
 (J4 (IntKind.wrap .u64 (v1.L.length:Int)) (l++[3])).bind fun b=>
 (E3 (fun _ a=>fun b1=>Lt W_ a b1) 0 v1.L b).bind ((fun b1=>.ok b1)) else .bad
theorem Tu {W' W_:Value→(List Int)→R (List Int)}(hW : ∀ w0 w1,Le (W' w0 w1) (W_ w0 w1))(v1:Value)(l:List Int):Le (L4 W' v1 l) (Dv W_ v1 l):=by
 unfold L4 Dv
 with_reducible repeat' first | exact Le.refl _ | exact hW .. | exact Tb (by assumption) .. | exact Mj .. | apply C0 | apply Cy | apply Dh | apply Cz | apply Cj | apply Co | apply Dj | apply Di | apply De | apply Dk | apply Df | apply D6 | (rw [Cl]; exact Le.refl _) | intro _
def L6:Nat→Value→(List Int)→R (List Int)
 | 0,_,_=>.bad
 | n+1,v1,l=>L4 (L6 n) v1 l
theorem Pc : ∀ (n k:Nat) a0 a1,Le (L6 n a0 a1) (En (n+k) a0 a1)
 | 0,k,a0,a1=>.inl rfl
 | n+1,k,a0,a1=>by
  rw [show n+1+k=(n+k)+1 by omega]
  exact Tu (fun a0 a1=>Pc n k a0 a1) a0 a1
def Nu (v1:Value)(l:List Int):R (List Int):=L6 16 v1 l
theorem Uv (v1:Value)(l:List Int):Le (Nu v1 l) (Gz v1 l):=by
 unfold Nu Gz
 rw [Me]
 exact Pc 16 (4000000 - 16) v1 l
def M7 (a:Value)(b1:List Int):R (List Int):=
 if a.Kind=0 then
(.bad)
else
(if a.Kind=1 then
((Iz a b1).bind fun b2=>
 .ok b2)
else
(if a.Kind=2 then
((I4 a b1).bind fun b3=>
 .ok b3)
else
(if a.Kind=3 then
((Nu a b1).bind fun b4=>
 .ok b4)
else
(.bad))))
theorem Ub (a:Value)(b1:List Int):Le (M7 a b1) (Hj a b1):=by
 unfold M7 Hj
 with_reducible repeat' first | exact Le.refl _ | exact hW .. | exact Md .. | exact Uv .. | exact L3 .. | apply C0 | apply Cy | apply Dh | apply Cz | apply Cj | apply Co | apply Dj | apply Di | apply De | apply Dk | apply Df | apply D6 | (rw [Cl]; exact Le.refl _) | intro _
def O4 (v1:Value):R (List Int):=
 if [3].length * 1≤C2 then
 (J4 (IntKind.wrap .u64 (v1.L.length:Int)) [3]).bind fun b=>
 (E3 (fun _ a=>fun b1=>M7 a b1) 0 v1.L b).bind ((fun b1=>.ok b1)) else .bad
theorem V9 (v1:Value):Le (O4 v1) (Gt v1):=by
 unfold O4 Gt
 with_reducible repeat' first | exact Le.refl _ | exact hW .. | exact Ub .. | exact Mj .. | apply C0 | apply Cy | apply Dh | apply Cz | apply Cj | apply Co | apply Dj | apply Di | apply De | apply Dk | apply Df | apply D6 | (rw [Cl]; exact Le.refl _) | intro _
def Qr (v:Value):R ((List Int)×Int):=
 (Uf v).bind fun e=>
 if(e != 0) then
(.ok ([],e))
else
((Jt).bind fun _=>
 if v.Kind=0 then
(.bad)
else
(if v.Kind=1 then
((Iz v []).bind fun b=>
 .ok (b,0))
else
(if v.Kind=2 then
((I4 v []).bind fun b1=>
 .ok (b1,0))
else
(if v.Kind=3 then
((O4 v).bind fun b2=>
 .ok (b2,0))
else
(.bad)))))
theorem Vh (v:Value):Le (Qr v) (Jl v):=by
 unfold Qr Jl
 with_reducible repeat' first | exact Le.refl _ | exact hW .. | exact Md .. | exact Acp .. | exact L3 .. | exact V9 .. | apply C0 | apply Cy | apply Dh | apply Cz | apply Cj | apply Co | apply Dj | apply Di | apply De | apply Dk | apply Df | apply D6 | (rw [Cl]; exact Le.refl _) | intro _
def Mk (m:Message)(l:List Value)(granted:Int):R ((List Int)×Int):=
 (C1 m.Kind).bind fun r1=>
 (C1 m.From).bind fun r2=>
 (C1 m.To).bind fun r3=>
 (C1 m.Term).bind fun r4=>
 (C1 m.Last).bind fun r5=>
 (C1 m.LastTerm).bind fun r6=>
 (C1 m.Commit).bind fun r7=>
 (C1 m.Match).bind fun r8=>
 (C1 granted).bind fun r9=>
 (Qr ({ Kind:=3,N:=0,S:=[],L:=[r1,r2,r3,r4,r5,r6,({ Kind:=3,N:=0,S:=[],L:=l }:Value),r7,r8,r9] }:Value)).bind fun r10=>
 .ok (r10.1,r10.2)
theorem Xl (m:Message)(l:List Value)(granted:Int):Le (Mk m l granted) (Fq m l granted):=by
 unfold Mk Fq
 with_reducible repeat' first | exact Le.refl _ | exact hW .. | exact Vh .. | apply C0 | apply Cy | apply Dh | apply Cz | apply Cj | apply Co | apply Dj | apply Di | apply De | apply Dk | apply Df | apply D6 | (rw [Cl]; exact Le.refl _) | intro _
def Rj (m:Message):R ((List Int)×Int):=
 (E3 (fun _ a=>fun l=>Ic a l) 0 m.Log []).bind ((fun l=>if m.Granted then
(Mk m l 1)
else
(Mk m l 0)))
theorem Zw (m:Message):Le (Rj m) (Gm m):=by
 unfold Rj Gm
 with_reducible repeat' first | exact Le.refl _ | exact hW .. | exact Xl .. | apply C0 | apply Cy | apply Dh | apply Cz | apply Cj | apply Co | apply Dj | apply Di | apply De | apply Dk | apply Df | apply D6 | (rw [Cl]; exact Le.refl _) | intro _
def K6 (s:T107):R (Int×T107):=
 (Tv 64 (Kd fun u i fRest=>E8 u i fRest) (0,0,s.fRest)).bind (fun r=>.ok r)
theorem Qq (s:T107):Le (K6 s) (Fh s):=by
 unfold K6 Fh
 with_reducible repeat' first | exact Le.refl _ | exact hW .. | apply C0 | apply Cy | apply Dh | apply Cz | apply Cj | apply Co | apply Dj | apply Di | apply De | apply Dk | apply Df | apply D6 | (rw [Cl]; exact Le.refl _) | intro _
def La (s:T107):R (Int×T107):=
 (K6 s).bind fun n=>
 (Eb n.2 (decide (n.1≤(IntKind.wrap .u64 (n.2.fRest.length:Int))))).bind fun _=>
 .ok ((IntKind.wrap .i64 n.1),n.2)
theorem V3 (s:T107):Le (La s) (Fe s):=by
 unfold La Fe
 with_reducible repeat' first | exact Le.refl _ | exact hW .. | exact Qq .. | apply C0 | apply Cy | apply Dh | apply Cz | apply Cj | apply Co | apply Dj | apply Di | apply De | apply Dk | apply Df | apply D6 | (rw [Cl]; exact Le.refl _) | intro _
def M6 (depth:Int)(W_:Int→T107→R (Value×T107))(r6:(Int×T107))(x:Int)(o:T107)(l:List Value):R ((Int×T107×(List Value)) ⊕ (T107×(List Value))):=
 if x<r6.1 then
((W_ (IntKind.wrap .i64 (depth+1)) o).bind fun r7=>
 if(l.length+[r7.1].length) * 56≤C2 then
 .ok (.inl ((IntKind.wrap .i64 (x+1)),r7.2,(l++[r7.1]))) else .bad)
else
(.ok (.inr ((o,l))))
theorem Ud {W' W_:Int→T107→R (Value×T107)}(hW : ∀ w0 w1,Le (W' w0 w1) (W_ w0 w1))(depth:Int)(r6:(Int×T107))(x:Int)(o:T107)(l:List Value):Le (M6 depth W' r6 x o l) (D2 depth W_ r6 x o l):=by
 unfold M6 D2
 with_reducible repeat' first | exact Le.refl _ | exact hW .. | apply C0 | apply Cy | apply Dh | apply Cz | apply Cj | apply Co | apply Dj | apply Di | apply De | apply Dk | apply Df | apply D6 | (rw [Cl]; exact Le.refl _) | intro _
def Np (W_:Int→T107→R (Value×T107))(depth:Int)(s:T107):R (Value×T107):=
 (Ea 1 s).bind fun _=>
 (Cd (s.fRest.take 1) 0).bind fun a=>
 if((IntKind.wrap .i64 a)==1) then
((K6 ({ fRest:=(s.fRest.drop 1) }:T107)).bind fun r1=>
 (Nm r1.1).bind fun r2=>
 .ok (({ Kind:=(IntKind.wrap .i64 a),N:=r2,S:=[],L:=[] }:Value),r1.2))
else
(if((IntKind.wrap .i64 a)==2) then
((La ({ fRest:=(s.fRest.drop 1) }:T107)).bind fun r3=>
 (Ea r3.1 r3.2).bind fun _=>
 .ok (({ Kind:=(IntKind.wrap .i64 a),N:=0,S:=(Be (r3.2.fRest.take (Int.toNat r3.1))),L:=[] }:Value),({ fRest:=(r3.2.fRest.drop (Int.toNat r3.1)) }:T107)))
else
(if((IntKind.wrap .i64 a)==3) then
((Eb ({ fRest:=(s.fRest.drop 1) }:T107) (decide (depth<16))).bind fun _=>
 (La ({ fRest:=(s.fRest.drop 1) }:T107)).bind fun r6=>
 (Tv 64 (Kd fun x o l=>M6 depth W_ r6 x o l) (0,r6.2,[])).bind (Eu fun o1 l1=>Hl a o1 l1))
else
((Eb ({ fRest:=(s.fRest.drop 1) }:T107) false).bind fun _=>
 .ok (({ Kind:=(IntKind.wrap .i64 a),N:=0,S:=[],L:=[] }:Value),({ fRest:=(s.fRest.drop 1) }:T107)))))
theorem Vd {W' W_:Int→T107→R (Value×T107)}(hW : ∀ w0 w1,Le (W' w0 w1) (W_ w0 w1))(depth:Int)(s:T107):Le (Np W' depth s) (Eo W_ depth s):=by
 unfold Np Eo
 with_reducible repeat' first | exact Le.refl _ | exact hW .. | exact V3 .. | exact Ud (by assumption) .. | exact Qq .. | apply C0 | apply Cy | apply Dh | apply Cz | apply Cj | apply Co | apply Dj | apply Di | apply De | apply Dk | apply Df | apply D6 | (rw [Cl]; exact Le.refl _) | intro _
def No:Nat→Int→T107→R (Value×T107)
 | 0,_,_=>.bad
 | n+1,depth,s=>Np (No n) depth s
theorem P8 : ∀ (n k:Nat) a0 a1,Le (No n a0 a1) (E1 (n+k) a0 a1)
 | 0,k,a0,a1=>.inl rfl
 | n+1,k,a0,a1=>by
  rw [show n+1+k=(n+k)+1 by omega]
  exact Vd (fun a0 a1=>P8 n k a0 a1) a0 a1
def O0 (depth:Int)(s:T107):R (Value×T107):=No 16 depth s
theorem Wz (depth:Int)(s:T107):Le (O0 depth s) (I0 depth s):=by
 unfold O0 I0
 rw [Me]
 exact P8 16 (4000000 - 16) depth s
def Ru (b:List Int):R (Value×Int):=
 (O0 0 ({ fRest:=b }:T107)).bind fun r=>
 (Eb r.2 ((r.2.fRest.length:Int)==0)).bind fun _=>
 .ok (r.1,0)
theorem Zt (b:List Int):Le (Ru b) (Lf b):=by
 unfold Ru Lf
 with_reducible repeat' first | exact Le.refl _ | exact hW .. | exact Wz .. | apply C0 | apply Cy | apply Dh | apply Cz | apply Cj | apply Co | apply Dj | apply Di | apply De | apply Dk | apply Df | apply D6 | (rw [Cl]; exact Le.refl _) | intro _
def Tf (b:List Int):R (Value×Int):=
 (Ru b).catch' (Lp 28 .i64 (fun n=>(Fd n).bind fun p=>.ok (({ Kind:=0,N:=0,S:=[],L:=[] }:Value),p)) (fun _=>.bad))
theorem Ab9 (b:List Int):Le (Tf b) (Nr b):=by
 unfold Tf Nr
 with_reducible repeat' first | exact Le.refl _ | exact hW .. | exact Zt .. | apply C0 | apply Cy | apply Dh | apply Cz | apply Cj | apply Co | apply Dj | apply Di | apply De | apply Dk | apply Df | apply D6 | (rw [Cl]; exact Le.refl _) | intro _
def Qe (b:List Int):R (Message×Int):=
 (Tf b).bind fun r=>
 if(r.2 != 0) then
(.ok (({ Kind:=0,From:=0,To:=0,Term:=0,Last:=0,LastTerm:=0,Log:=[],Commit:=0,Match:=0,Granted:=false }:Message),r.2))
else
((if((r.1.Kind==3)&&((r.1.L.length:Int)==10)) then(Cd r.1.L 6).bind fun a=>
 R.ok (a.Kind==3) else R.ok false).bind (fun(b1:Bool)=>(Bm b1 470).bind fun _=>
 (Bg 0 r.1).bind fun r2=>
 (Bg 1 r.1).bind fun r3=>
 (Bg 2 r.1).bind fun r4=>
 (Bg 3 r.1).bind fun r5=>
 (Bg 4 r.1).bind fun r6=>
 (Bg 5 r.1).bind fun r7=>
 (Bg 7 r.1).bind fun r8=>
 (Bg 8 r.1).bind fun r9=>
 (Bg 9 r.1).bind fun r10=>
 (Bg 9 r.1).bind fun r11=>
 (Bv r11 0 1).bind fun r12=>
 (Bm r12 470).bind fun _=>
 (Cd r.1.L 6).bind fun a1=>
 (E3 (fun _ a2=>fun l=>Gj a2 l) 0 a1.L []).bind ((fun l=>.ok (({ Kind:=r2,From:=r3,To:=r4,Term:=r5,Last:=r6,LastTerm:=r7,Log:=l,Commit:=r8,Match:=r9,Granted:=(r10==1) }:Message),0)))))
theorem X0 (b:List Int):Le (Qe b) (G3 b):=by
 unfold Qe G3
 with_reducible repeat' first | exact Le.refl _ | exact hW .. | exact Ab9 .. | apply C0 | apply Cy | apply Dh | apply Cz | apply Cj | apply Co | apply Dj | apply Di | apply De | apply Dk | apply Df | apply D6 | (rw [Cl]; exact Le.refl _) | intro _
def O7 (b:List Int):R (Message×Int):=
 (Qe b).catch' (H9 105 .i64 (fun n=>(El n).bind fun p=>.ok (({ Kind:=0,From:=0,To:=0,Term:=0,Last:=0,LastTerm:=0,Log:=[],Commit:=0,Match:=0,Granted:=false }:Message),p)) (fun _=>.bad))
theorem Zp (b:List Int):Le (O7 b) (Hx b):=by
 unfold O7 Hx
 with_reducible repeat' first | exact Le.refl _ | exact hW .. | exact X0 .. | apply C0 | apply Cy | apply Dh | apply Cz | apply Cj | apply Co | apply Dj | apply Di | apply De | apply Dk | apply Df | apply D6 | (rw [Cl]; exact Le.refl _) | intro _
def Z3:R Bool:=
 (Ld 0 3).bind fun r=>
 (Ld 0 6).bind fun r1=>
 (Od r.1 []).bind fun r2=>
 (Ob r.1 ({ Kind:=0,From:=0,To:=0,Term:=0,Last:=0,LastTerm:=0,Log:=[],Commit:=0,Match:=0,Granted:=false }:Message)).bind fun r3=>
 (Ld 0 1).bind fun r4=>
 (On r4.1).bind fun r5=>
 (Od r5.1 [97]).bind fun r6=>
 (On r.1).bind fun r7=>
 (Ob r7.1 ({ Kind:=2,From:=2,To:=0,Term:=1,Last:=0,LastTerm:=0,Log:=[],Commit:=0,Match:=0,Granted:=true }:Message)).bind fun r8=>
 (Rj ({ Kind:=3,From:=0,To:=0,Term:=0,Last:=0,LastTerm:=0,Log:=[({ Term:=3,Data:=[120] }:Record)],Commit:=1,Match:=0,Granted:=true }:Message)).bind fun r9=>
 (O7 r9.1).bind fun r10=>
 (Qr ({ Kind:=1,N:=0,S:=[],L:=[] }:Value)).bind fun r11=>
 (O7 r11.1).bind fun r12=>
 (if(((((((((((((r.2 != 0)||(r1.2 != 470))||(r2.2.2 != 470))||(r3.2.2 != 470))||(r4.2 != 0))||(r5.2.2 != 0))||(r6.2.2 != 0))||(r7.2.2 != 0))||(r8.2.2 != 0))||(r9.2 != 0))||(r10.2 != 0))||(r11.2 != 0))||(r12.2 != 470)) then R.ok true else(Gl ({ ID:=0,Many:=0,Term:=0,Vote:=0,Log:=[],Role:=0,Commit:=0,Votes:=[],Match:=[] }:Replica)).bind fun r13=>
 R.ok (r13 != 470)).bind (fun(b:Bool)=>(if b then R.ok true else(Gl r.1).bind fun r14=>
 R.ok (r14 != 0)).bind (fun(b1:Bool)=>if b1 then
(.ok false)
else
((Eh r6.1).bind fun r15=>
 (if(((r5.2.1.length:Int)==0)&&((r15.length:Int)==1)) then(Cd r15 0).bind fun a=>
 R.ok ((Be a)==[97]) else R.ok false).bind (fun(b2:Bool)=>(if b2 then(Jm r6.1).bind fun r16=>
 (Eh r16).bind fun r17=>
 R.ok ((r17.length:Int)==0) else R.ok false).bind (fun(b3:Bool)=>(if(b3&&((r7.2.1.length:Int)==2)) then(Cd r7.2.1 0).bind fun a1=>
 R.ok (a1.Kind==1) else R.ok false).bind (fun(b4:Bool)=>(if((b4&&(r8.1.Role==2))&&((r8.2.1.length:Int)==2)) then(Cd r8.2.1 1).bind fun a2=>
 R.ok (a2.Kind==3) else R.ok false).bind (fun(b5:Bool)=>(if((b5&&r10.1.Granted)&&((r10.1.Log.length:Int)==1)) then(Cd r10.1.Log 0).bind fun a3=>
 R.ok ((Be a3.Data)==[120]) else R.ok false).bind (fun(b6:Bool)=>.ok b6))))))))
theorem Ad2:Le (Z3 ) (Px ):=by
 unfold Z3 Px
 with_reducible repeat' first | exact Le.refl _ | exact hW .. | exact Vh .. | exact Zp .. | exact Ys .. | exact Yk .. | exact Y5 .. | exact Zw .. | apply C0 | apply Cy | apply Dh | apply Cz | apply Cj | apply Co | apply Dj | apply Di | apply De | apply Dk | apply Df | apply D6 | (rw [Cl]; exact Le.refl _) | intro _
end Go.Am
namespace Go.Am
open Go
theorem Ad5:Px=.ok true:=An8 Ad2 (by kernel_rfl)
end Go.Am
namespace Go.Am
open Go
set_option linter.unusedVariables false
set_option linter.unusedSimpArgs false
namespace Rp
end Rp
end Go.Am
namespace Go.Am
open Go
set_option linter.unusedVariables false
set_option linter.unusedSimpArgs false
namespace Rp
end Rp
end Go.Am
namespace Go.Am
open Go
set_option linter.unusedVariables false
set_option linter.unusedSimpArgs false
namespace Rp
theorem Aeh {p:Int→Prop}(h : ∀ n:Nat,n<256→p n){a:Int}(ha:0≤a∧a<256):p a:=by
 have:=h a.toNat (by omega)
 rwa [show((a.toNat:Nat):Int)=a by omega] at this
theorem Anb {a:Int}(h:0≤a∧a<256):Kf .u8 a 127=a % 128:=
 Aeh (p:=fun a=>Kf .u8 a 127=a % 128) (by decide +kernel) h
theorem Aob {a:Int}(h:0≤a∧a<256):P6 .u8 a 128=a % 128+128:=
 Aeh (p:=fun a=>P6 .u8 a 128=a % 128+128) (by decide +kernel) h
theorem Er {n:Int}(h:0≤n∧n<18446744073709551616):IntKind.wrap .u64 n=n:=by
 simp [IntKind.wrap,IntKind.bits,IntKind.signed]
 omega
theorem Za (n:Int):IntKind.wrap .u8 n=n % 256:=by
 simp [IntKind.wrap,IntKind.bits,IntKind.signed]
theorem Po (n:Nat):BitVec.ofInt 64 (n:Int)=BitVec.ofNat 64 n:=by simp
theorem Am6 {u x k:Nat}(hu:u<2 ^ k)(hk:k≤63)(hx:x * 2 ^ k<2 ^ 64):P6 .u64 (u:Int) (Hq .u64 (x:Int) (k:Int))=((u+x * 2 ^ k:Nat):Int):=by
 have e1:Hq .u64 (x:Int) (k:Int)=((x * 2 ^ k:Nat):Int):=by
  unfold Hq
  rw [show min ((k:Int).toNat) (IntKind.bits .u64)=k by show min _ 64=k; omega]
  have e:((x:Int) * 2 ^ k)=((x * 2 ^ k:Nat):Int):=by push_cast; rfl
  rw [e,Er]
  omega
 have hu64:u<2 ^ 64:=Nat.lt_of_lt_of_le hu (Nat.pow_le_pow_right (by omega) (by omega))
 rw [e1]
 unfold P6
 show IntKind.wrap .u64 ((BitVec.ofInt 64 (u:Int) ||| BitVec.ofInt 64 ((x * 2 ^ k:Nat):Int)).toNat:Int)=_
 rw [Po,Po,BitVec.toNat_or,BitVec.toNat_ofNat,BitVec.toNat_ofNat,Nat.mod_eq_of_lt hu64,Nat.mod_eq_of_lt hx]
 have e3:u ||| x * 2 ^ k=u+x * 2 ^ k:=by
  have:=Nat.two_pow_add_eq_or_of_lt hu x
  rw [Nat.or_comm,Nat.mul_comm x,← this]
  omega
 rw [e3,Er]
 constructor
 ·omega
 ·have e:u+x * 2 ^ k<2 ^ 64:=by
   have h1:(x * 2 ^ k+2 ^ k)≤2 ^ 64:=by
    have h2:2 ^ 64=2 ^ (64 - k) * 2 ^ k:=by rw [← Nat.pow_add]; congr 1; omega
    rw [h2] at hx ⊢
    have h3:x<2 ^ (64 - k):=Nat.lt_of_mul_lt_mul_right hx
    rw [← Nat.succ_mul]
    exact Nat.mul_le_mul_right _ h3
   omega
  omega
def O8 (n:Int):Nat:=if 0≤n then(2 * n).toNat else(-2 * n - 1).toNat
def Xx (u:Nat):Int:=if u % 2=0 then((u / 2:Nat):Int) else -((u / 2:Nat):Int) - 1
def Kp (n:Int):Prop := -9223372036854775808≤n∧n≤9223372036854775807
theorem Uq {n:Int}(h:Kp n):O8 n<18446744073709551616:=by
 unfold Kp at h
 unfold O8
 split <;> omega
theorem Ajk (n:Int):Xx (O8 n)=n:=by
 unfold Xx O8
 split <;> split <;> omega
theorem Aj6 (u:Nat):O8 (Xx u)=u:=by
 unfold Xx O8
 split <;> split <;> omega
theorem Amd {u:Nat}(h:u<18446744073709551616):Kp (Xx u):=by
 unfold Kp Xx
 split <;> omega
theorem Ah0 {n:Nat}(h:n<2 ^ 64):O1 .u64 (n:Int) 0=n:=by
 unfold O1
 show IntKind.wrap .u64 ((BitVec.ofInt 64 (n:Int) ^^^ BitVec.ofInt 64 (0:Int)).toNat:Int)=_
 rw [Po,show BitVec.ofInt 64 (0:Int)=0#64 from rfl,BitVec.xor_zero,BitVec.toNat_ofNat,Nat.mod_eq_of_lt h,Er]
 omega
theorem Aii {n:Nat}(h:n<2 ^ 64):O1 .u64 (n:Int) 18446744073709551615=18446744073709551615 - (n:Int):=by
 unfold O1
 show IntKind.wrap .u64 ((BitVec.ofInt 64 (n:Int) ^^^ BitVec.ofInt 64 (18446744073709551615:Int)).toNat:Int)=_
 rw [Po,show BitVec.ofInt 64 (18446744073709551615:Int)=BitVec.allOnes 64 from by decide,BitVec.xor_allOnes,BitVec.toNat_not,BitVec.toNat_ofNat,Nat.mod_eq_of_lt h,Er] <;> omega
theorem Agg {n:Int}(h:Kp n):Lh n=.ok (O8 n:Int):=by
 unfold Lh
 unfold Kp at h
 congr 1
 rcases Int.lt_or_le n 0 with hn | hn
 ·have e1:IntKind.wrap .u64 n=18446744073709551616+n:=by
   simp [IntKind.wrap,IntKind.bits,IntKind.signed]; omega
  have e2:Int.fdiv n 9223372036854775808 = -1:=by
   rw [Int.fdiv_eq_ediv_of_nonneg _ (by omega)]; omega
  have e3:IntKind.wrap .u64 (-1)=18446744073709551615:=by decide
  have e4:Hq .u64 (18446744073709551616+n) 1=((18446744073709551616+2 * n).toNat:Int):=by
   unfold Hq
   rw [show min ((1:Int).toNat) (IntKind.bits .u64)=1 from rfl]
   simp [IntKind.wrap,IntKind.bits,IntKind.signed]; omega
  rw [e1,e2,e3,e4,Aii (by omega)]
  unfold O8
  rw [if_neg (by omega)]
  omega
 ·have e1:IntKind.wrap .u64 n=n:=Er (by omega)
  have e2:Int.fdiv n 9223372036854775808=0:=by
   rw [Int.fdiv_eq_ediv_of_nonneg _ (by omega)]; omega
  have e3:IntKind.wrap .u64 0=0:=by decide
  have e4:Hq .u64 n 1=((2 * n).toNat:Int):=by
   unfold Hq
   rw [show min ((1:Int).toNat) (IntKind.bits .u64)=1 from rfl]
   simp [IntKind.wrap,IntKind.bits,IntKind.signed]; omega
  rw [e1,e2,e3,e4,Ah0 (by omega)]
  unfold O8
  rw [if_pos hn]
theorem Ae3 {n:Int}(h:Kp n):Nw n=.ok (O8 n:Int):=by
 unfold Nw
 unfold Kp at h
 unfold O8
 by_cases hn:n≥0
 ·rw [if_pos hn,if_pos hn,Er (n:=n) (by omega),Er (by omega)]
  congr 1
  omega
 ·rw [if_neg hn,if_neg hn,F4 (n:=n+1) (by omega) (by omega),F4 (by omega) (by omega),Er (n:=0 - (n+1)) (by omega),Er (n:=2 * (0 - (n+1))) (by omega),Er (by omega)]
  congr 1
  omega
theorem Amy (u:Nat):Kf .u64 (u:Int) 1=((u % 2:Nat):Int):=by
 unfold Kf
 show IntKind.wrap .u64 ((BitVec.ofInt 64 (u:Int) &&& BitVec.ofInt 64 (1:Int)).toNat:Int)=_
 rw [Po,show BitVec.ofInt 64 (1:Int)=BitVec.ofNat 64 1 from rfl,BitVec.toNat_and,BitVec.toNat_ofNat,BitVec.toNat_ofNat,show 1 % 2 ^ 64=1 from rfl,Nat.and_one_is_mod,Nat.mod_mod_of_dvd _ (by decide:2 ∣ 2 ^ 64),Er]
 omega
theorem Aks {u:Nat}(h:u<18446744073709551616):Nm u=.ok (Xx u):=by
 unfold Nm
 have e1:Int.fdiv (u:Int) 2=((u / 2:Nat):Int):=by rw [Int.fdiv_eq_ediv_of_nonneg _ (by omega)]; omega
 have e2:IntKind.wrap .i64 ((u / 2:Nat):Int)=((u / 2:Nat):Int):=F4 (by omega) (by omega)
 rw [e1,e2,Amy,F4 (n:=((u % 2:Nat):Int)) (by omega) (by omega),F4 (by omega) (by omega)]
 congr 1
 unfold Xx
 have hu:u / 2<9223372036854775808:=by omega
 generalize u / 2=x at hu
 rcases Nat.mod_two_eq_zero_or_one u with q | q
 ·rw [q,if_pos rfl]
  unfold O1
  show IntKind.wrap .i64 ((BitVec.ofInt 64 (x:Int) ^^^ BitVec.ofInt 64 (0 - ((0:Nat):Int))).toNat:Int)=_
  rw [Po,show BitVec.ofInt 64 (0 - ((0:Nat):Int))=0#64 from rfl,BitVec.xor_zero,BitVec.toNat_ofNat,Nat.mod_eq_of_lt (by omega),F4 (by omega) (by omega)]
 ·rw [q,if_neg (by omega)]
  unfold O1
  show IntKind.wrap .i64 ((BitVec.ofInt 64 (x:Int) ^^^ BitVec.ofInt 64 (0 - ((1:Nat):Int))).toNat:Int)=_
  rw [Po,show BitVec.ofInt 64 (0 - ((1:Nat):Int))=BitVec.allOnes 64 from by decide,BitVec.xor_allOnes,BitVec.toNat_not,BitVec.toNat_ofNat,Nat.mod_eq_of_lt (by omega)]
  simp [IntKind.wrap,IntKind.bits,IntKind.signed]
  omega
def J8 (u:Nat):List Int:=if h:u<128 then [(u:Int)] else((u % 128+128:Nat):Int)::J8 (u / 128)
termination_by u
decreasing_by omega
theorem Sz {u:Nat}(h:u<128):J8 u=[(u:Int)]:=by rw [J8,dif_pos h]
theorem Um {u:Nat}(h:¬ u<128):J8 u=((u % 128+128:Nat):Int)::J8 (u / 128):=by rw [J8,dif_neg h]
theorem Ahp : ∀ (k u:Nat),1≤k→u<128 ^ k→1≤(J8 u).length∧(J8 u).length≤k
 | 0,u,h,_=>by omega
 | k+1,u,h,hu=>by
  by_cases hq:u<128
  ·rw [Sz hq]; simp
  ·rw [Um hq]
   have hk:1≤k:=by
    rcases Nat.eq_zero_or_pos k with q | q
    ·subst q; simp at hu; omega
    ·exact q
   have:=Ahp k (u / 128) hk (by rw [Nat.div_lt_iff_lt_mul (by omega)]; rw [Nat.pow_succ] at hu; exact hu)
   simp only [List.length_cons]
   omega
theorem Pu {u:Nat}(h:u<18446744073709551616):1≤(J8 u).length∧(J8 u).length≤10:=Ahp 10 u (by omega) (Nat.lt_of_lt_of_le h (by decide))
theorem Yz (u:Nat) : ∀ b ∈ J8 u,0≤b∧b<256:=by
 induction u using Nat.strongRecOn with
 | _ u ih=>
  by_cases hq:u<128
  ·rw [Sz hq]
   intro b hb
   rw [List.mem_singleton.1 hb]
   omega
  ·rw [Um hq]
   intro b hb
   rcases List.mem_cons.1 hb with rfl | h
   ·omega
   ·exact ih (u / 128) (by omega) b h
theorem Yd : ∀ (k u:Nat) (l:List Int),u<128 ^ (k+1)→l.length+k+1≤C2→(loop (Eu fun u1 b=>E6 u1 b) ((u:Int),l)).bind (Eu fun u2 b1=>Hr u2 b1)=.ok (l++J8 u)
 | k,u,l,hu,hl=>by
  by_cases hq:u<128
  ·have hst:(Eu fun u1 b=>E6 u1 b) ((u:Int),l)=.ok (.inr ((u:Int),l)):=by
    simp only [Eu,E6]
    rw [if_neg (by omega)]
   rw [Lg,hst]
   simp only [R.ok_bind,Eu,Hr]
   rw [if_pos (by simp only [List.length_singleton]; omega),Za,Sz hq]
   congr 3
   omega
  ·cases k with
   | zero=>simp at hu; omega
   | succ k=>
    have hst:(Eu fun u1 b=>E6 u1 b) ((u:Int),l)=.ok (.inl (((u / 128:Nat):Int),l++[((u % 128+128:Nat):Int)])):=by
     simp only [Eu,E6]
     rw [if_pos (by omega),if_pos (by simp only [List.length_singleton]; omega),Za,Aob (by omega),Int.fdiv_eq_ediv_of_nonneg _ (by omega)]
     congr 3
     congr 2
     omega
    rw [Lg,hst]
    simp only [R.ok_bind]
    rw [Yd k (u / 128) _ (by rw [Nat.div_lt_iff_lt_mul (by omega)]; rw [Nat.pow_succ] at hu; exact hu) (by simp only [List.length_append,List.length_singleton]; omega),Um hq]
    simp
theorem Xb {u:Nat}{l:List Int}(hu:u<18446744073709551616)(hl:l.length≤2000000000):F9 u l=.ok (l++J8 u):=by
 unfold F9
 exact Yd 9 u l (Nat.lt_of_lt_of_le hu (by decide)) (by unfold C2; omega)
theorem Ab2 : ∀ (k n u:Nat),u<128 ^ (k+1)→k<n→u<18446744073709551616→Km n (u:Int)=.ok (J8 u)
 | k,0,u,hu,hn,h64=>by omega
 | k,n+1,u,hu,hn,h64=>by
  show Mm (Km n) (u:Int)=_
  unfold Mm
  by_cases hq:u<128
  ·rw [if_pos (by omega),Za,Sz hq]
   congr 2
   omega
  ·rw [if_neg (by omega)]
   cases k with
   | zero=>simp at hu; omega
   | succ k=>
    have e1:IntKind.wrap .u64 (Int.tdiv (u:Int) 128)=((u / 128:Nat):Int):=by
     rw [Int.tdiv_eq_ediv_of_nonneg (by omega),Er (by omega)]; omega
    have hlt:u / 128<128 ^ (k+1):=by rw [Nat.div_lt_iff_lt_mul (by omega)]; rw [Nat.pow_succ] at hu; exact hu
    have e2:IntKind.wrap .u8 (IntKind.wrap .u64 (Int.tmod (u:Int) 128+128))=((u % 128+128:Nat):Int):=by
     rw [Int.tmod_eq_emod_of_nonneg (by omega),Er (by omega),Za]; omega
    have hlen:=Pu (u:=u / 128) (by omega)
    rw [e1,Ab2 k n (u / 128) hlt (by omega) (by omega),R.ok_bind,e2,if_pos (by simp only [List.length_singleton]; unfold C2; omega),Um hq]
    rfl
theorem Vp {u:Nat}(hu:u<18446744073709551616):Mf (u:Int)=.ok (J8 u):=by
 unfold Mf
 exact Ab2 9 Jv u (Nat.lt_of_lt_of_le hu (by decide)) (by rw [Me]; omega) hu
end Rp
end Go.Am
namespace Go.Am
open Go
set_option linter.unusedVariables false
set_option linter.unusedSimpArgs false
namespace Rp
def C6 (l:List Int):Prop := ∀ b ∈ l,0≤b∧b<256
def I7:Nat→List Int→Option (Nat×List Int)
 | _,[]=>none
 | i,c::r=>if(i=0∨c≠0)∧(i<9∨c≤1) then(if c<128 then some (c.toNat,r) else match I7 (i+1) r with
  | none=>none
  | some (u,r')=>some (c.toNat % 128+128 * u,r')) else none
theorem X2 : ∀ (l:List Int) (i:Nat),C6 l→i≤9 → ∀ u r,I7 i l=some (u,r)→u<2 ^ (64 - 7 * i)
 | [],i,hb,hi,u,r,h=>by simp [I7] at h
 | c::l,i,hb,hi,u,r,h=>by
  have hc:=hb c (List.mem_cons_self ..)
  rw [I7] at h
  split at h
  ·rename_i hq
   split at h
   ·rename_i hlt
    cases h
    rcases Nat.lt_or_ge i 9 with h9 | h9
    ·have:2 ^ 8≤2 ^ (64 - 7 * i):=Nat.pow_le_pow_right (by omega) (by omega)
     omega
    ·have:i=9:=by omega
     subst this
     show c.toNat<2
     omega
   ·rename_i hlt
    have h9:i<9:=by omega
    split at h
    ·cases h
    ·rename_i u' r' hr
     cases h
     have:=X2 l (i+1) (fun b hb'=>hb b (List.mem_cons_of_mem _ hb')) (by omega) u' r hr
     have e:2 ^ (64 - 7 * i)=128 * 2 ^ (64 - 7 * (i+1)):=by
      rw [show(128:Nat)=2 ^ 7 from rfl,← Nat.pow_add]
      congr 1
      omega
     rw [e]
     omega
  ·cases h
theorem Rl : ∀ (l:List Int) (i:Nat) u r,I7 i l=some (u,r)→C6 l→l=J8 u++r∧(i=0∨u≠0)
 | [],i,u,r,h,hb=>by simp [I7] at h
 | c::l,i,u,r,h,hb=>by
  have hc:=hb c (List.mem_cons_self ..)
  rw [I7] at h
  split at h
  ·rename_i hq
   split at h
   ·rename_i hlt
    cases h
    rw [Sz (by omega)]
    exact⟨by rw [show((c.toNat:Nat):Int)=c by omega]; rfl,by omega⟩
   ·rename_i hlt
    split at h
    ·cases h
    ·rename_i u' r' hr
     cases h
     obtain⟨e,h0⟩:=Rl l (i+1) u' r hr (fun b hb'=>hb b (List.mem_cons_of_mem _ hb'))
     have hu:u'≠0:=by omega
     rw [Um (by omega),show(c.toNat % 128+128 * u') / 128=u' by omega,e,show(((c.toNat % 128+128 * u') % 128+128:Nat):Int)=c by omega]
     exact⟨rfl,by omega⟩
  ·cases h
theorem Ahm : ∀ (k u i:Nat) (r:List Int),u<128 ^ k→u<2 ^ (64 - 7 * i)→i≤9→(i=0∨u≠0)→I7 i (J8 u++r)=some (u,r)
 | 0,u,i,r,hu,hu2,hi,h0=>by
  simp at hu
  subst hu
  rw [Sz (by omega)]
  show I7 i (0::r)=_
  rw [I7,if_pos ⟨.inl (by omega),.inr (by omega)⟩,if_pos (by omega)]
  rfl
 | k+1,u,i,r,hu,hu2,hi,h0=>by
  by_cases hq:u<128
  ·rw [Sz hq]
   show I7 i ((u:Int)::r)=_
   have h9:i<9∨(u:Int)≤1:=by
    rcases Nat.lt_or_ge i 9 with h | h
    ·exact .inl h
    ·have:i=9:=by omega
     subst this
     have:u<2:=hu2
     exact .inr (by omega)
   rw [I7,if_pos ⟨by omega,h9⟩,if_pos (by omega)]
   rfl
  ·rw [Um hq]
   have h9:i<9:=by
    rcases Nat.lt_or_ge i 9 with h | h
    ·exact h
    ·have:i=9:=by omega
     subst this
     have:u<2:=hu2
     omega
   have e:2 ^ (64 - 7 * i)=128 * 2 ^ (64 - 7 * (i+1)):=by
    rw [show(128:Nat)=2 ^ 7 from rfl,← Nat.pow_add]
    congr 1
    omega
   show I7 i (((u % 128+128:Nat):Int)::(J8 (u / 128)++r))=_
   rw [I7,if_pos ⟨by omega,.inl h9⟩,if_neg (by omega),Ahm k (u / 128) (i+1) r (by rw [Nat.div_lt_iff_lt_mul (by omega)]; rw [Nat.pow_succ] at hu; exact hu) (by rw [e] at hu2; omega) (by omega) (by omega)]
   simp only
   congr 2
   omega
theorem Aeg {u:Nat}(h:u<18446744073709551616)(r:List Int):I7 0 (J8 u++r)=some (u,r):=
 Ahm 10 u 0 r (Nat.lt_of_lt_of_le h (by decide)) h (by omega) (.inl rfl)
theorem Sf {l:List Int}{i u:Nat}{r:List Int}(h:I7 i l=some (u,r))(hb:C6 l) : ∃ q,l=q++r∧1≤q.length:=by
 obtain⟨e,_⟩:=Rl l i u r h hb
 refine⟨J8 u,e,?_⟩
 by_cases hq:u<128
 ·rw [Sz hq]; simp
 ·rw [Um hq]; simp
def Xt:PV:=⟨28,.int .i64 10⟩
theorem T2 (r:T107)(b:Bool):Eb r b=if b then .ok () else .pan Xt:=rfl
theorem Ahj {n:Nat}(l:List Int):Ea n ⟨l⟩=if n≤l.length then .ok () else .pan Xt:=by
 unfold Ea
 rw [T2]
 by_cases h:n≤l.length
 ·rw [decide_eq_true (by show(n:Int)≤(l.length:Int); omega),if_pos rfl,if_pos h]
  simp only [R.ok_bind]
  rw [if_pos (by show 0≤(n:Int)∧(n:Int)≤(l.length:Int); omega),if_pos (by show 0≤(n:Int)∧(n:Int)≤(l.length:Int); omega)]
 ·rw [decide_eq_false (by show ¬ (n:Int)≤(l.length:Int); omega),if_neg h]
  rfl
theorem Aew (l:List Int):Ea 1 ⟨l⟩=if l=[] then .pan Xt else .ok ():=by
 have:=Ahj (n:=1) l
 rw [show Ea 1 ⟨l⟩=Ea ((1:Nat):Int) ⟨l⟩ from rfl,this]
 cases l with
 | nil=>rfl
 | cons a l=>simp
theorem Abf {c i:Nat}(hi:i≤9)(hc:i<9∨c≤1):(c % 128) * 2 ^ (7 * i)<2 ^ 64:=by
 rcases Nat.lt_or_ge i 9 with h | h
 ·have h1:c % 128<2 ^ 7:=by omega
  calc (c % 128) * 2 ^ (7 * i)<2 ^ 7 * 2 ^ (7 * i):=Nat.mul_lt_mul_of_pos_right h1 (Nat.pow_pos (by omega))
   _=2 ^ (7+7 * i):=by rw [← Nat.pow_add]
   _≤2 ^ 64:=Nat.pow_le_pow_right (by omega) (by omega)
 ·have:i=9:=by omega
  subst this
  have:c % 128≤1:=by omega
  calc (c % 128) * 2 ^ (7 * 9)≤1 * 2 ^ (7 * 9):=Nat.mul_le_mul_right _ this
   _<2 ^ 64:=by decide
theorem Ajg {u c i:Nat}(hu:u<2 ^ (7 * i)):u+(c % 128) * 2 ^ (7 * i)<2 ^ (7 * (i+1)):=by
 have h1:c % 128+1≤2 ^ 7:=by omega
 have e:2 ^ (7 * (i+1))=2 ^ 7 * 2 ^ (7 * i):=by rw [← Nat.pow_add]; congr 1; omega
 have h2:(c % 128+1) * 2 ^ (7 * i)≤2 ^ 7 * 2 ^ (7 * i):=Nat.mul_le_mul_right _ h1
 rw [Nat.add_mul,Nat.one_mul] at h2
 omega
theorem Abj {u i:Nat}{l:List Int}(hb:C6 l)(hi:i≤9)(hu:u<2 ^ (7 * i)):E8 (u:Int) (i:Int) l=match l with
  | []=>.pan Xt
  | c::r=>if(i=0∨c≠0)∧(i<9∨c≤1) then(if c<128 then .ok (.inr (((u+(c.toNat % 128) * 2 ^ (7 * i):Nat):Int),⟨r⟩)) else .ok (.inl (((u+(c.toNat % 128) * 2 ^ (7 * i):Nat):Int),((i+1:Nat):Int),r))) else .pan Xt:=by
 unfold E8
 rw [Aew]
 cases l with
 | nil=>rfl
 | cons c r=>
  have hc:=hb c (List.mem_cons_self ..)
  rw [if_neg (by simp)]
  simp only [R.ok_bind,show((c::r).take 1)=[c] from rfl,Al3,show((c::r).drop 1)=r from rfl]
  rw [T2]
  have hw1:IntKind.wrap .i64 (7 * (i:Int))=((7 * i:Nat):Int):=by rw [F4 (by omega) (by omega)]; omega
  have hw2:IntKind.wrap .i64 ((i:Int)+1)=((i+1:Nat):Int):=by rw [F4 (by omega) (by omega)]; omega
  by_cases hq:(i=0∨c≠0)∧(i<9∨c≤1)
  ·have hd:((((i:Int)==0)||(c != 0))&&((decide ((i:Int)<9))||(decide (c≤1))))=true:=by
    simp only [Bool.and_eq_true,Bool.or_eq_true,beq_iff_eq,bne_iff_ne,decide_eq_true_eq]
    omega
   rw [hd,if_pos rfl,if_pos hq]
   simp only [R.ok_bind,hw1,hw2]
   have hdig:P6 .u64 (u:Int) (Hq .u64 (IntKind.wrap .u64 (Kf .u8 c 127)) ((7 * i:Nat):Int))=((u+(c.toNat % 128) * 2 ^ (7 * i):Nat):Int):=by
    rw [Anb hc,Er (by omega),show c % 128=((c.toNat % 128:Nat):Int) by omega]
    exact Am6 hu (by omega) (Abf hi (by omega))
   rw [if_pos (by omega),hdig]
  ·have hd:((((i:Int)==0)||(c != 0))&&((decide ((i:Int)<9))||(decide (c≤1))))=false:=by
    rw [Bool.eq_false_iff]
    simp only [ne_eq,Bool.and_eq_true,Bool.or_eq_true,beq_iff_eq,bne_iff_ne,decide_eq_true_eq]
    omega
   rw [hd,if_neg (by simp),if_neg hq]
   rfl
theorem Z5 : ∀ (l:List Int) (u i:Nat),C6 l→i≤9→u<2 ^ (7 * i)→loop (Kd fun u i fRest=>E8 u i fRest) ((u:Int),(i:Int),l)=match I7 i l with
  | none=>.pan Xt
  | some (v,r)=>.ok (((u+v * 2 ^ (7 * i):Nat):Int),(⟨r⟩:T107))
 | [],u,i,hb,hi,hu=>by
  rw [Lg]
  have:=Abj hb hi hu
  simp only at this
  simp only [Kd,this,I7]
  rfl
 | c::l,u,i,hb,hi,hu=>by
  have hc:=hb c (List.mem_cons_self ..)
  rw [Lg]
  have:=Abj hb hi hu
  simp only at this
  simp only [Kd,this]
  rw [I7]
  by_cases hq:(i=0∨c≠0)∧(i<9∨c≤1)
  ·rw [if_pos hq,if_pos hq]
   by_cases hlt:c<128
   ·rw [if_pos hlt,if_pos hlt]
    simp only [R.ok_bind]
    rw [show c.toNat % 128=c.toNat by omega]
   ·rw [if_neg hlt,if_neg hlt]
    simp only [R.ok_bind]
    have h9:i<9:=by omega
    rw [Z5 l _ (i+1) (fun b hb'=>hb b (List.mem_cons_of_mem _ hb')) (by omega) (Ajg hu)]
    cases I7 (i+1) l with
    | none=>rfl
    | some p=>
     obtain⟨v,r⟩:=p
     simp only
     congr 3
     have e:2 ^ (7 * (i+1))=128 * 2 ^ (7 * i):=by rw [show(128:Nat)=2 ^ 7 from rfl,← Nat.pow_add]; congr 1; omega
     rw [e,Nat.add_mul]
     have:v * (128 * 2 ^ (7 * i))=128 * v * 2 ^ (7 * i):=by rw [← Nat.mul_assoc,Nat.mul_comm v 128]
     omega
  ·rw [if_neg hq,if_neg hq]
   rfl
theorem Adf {l:List Int}(hb:C6 l):Fh ⟨l⟩=match I7 0 l with
  | none=>.pan Xt
  | some (v,r)=>.ok ((v:Int),(⟨r⟩:T107)):=by
 unfold Fh
 have:=Z5 l 0 0 hb (by omega) (by simp)
 rw [show(((0:Int),(0:Int),(⟨l⟩:T107).fRest):Int×Int×List Int)=(((0:Nat):Int),((0:Nat):Int),l) from rfl,this]
 cases I7 0 l with
 | none=>rfl
 | some p=>simp
def T111.at' (B:List Int)(l:List Int):T111:={ B:=B,At:=(B.length:Int) - l.length,Bad:=false }
theorem Acx {B:List Int}(hB:B.length≤2000000000){l:List Int}(hl : ∃ q,B=q++l):Id (T111.at' B l)=match l with
  | []=>.ok (0,{ B:=B,At:=(B.length:Int),Bad:=true })
  | c::r=>.ok (c,T111.at' B r):=by
 obtain⟨q,rfl⟩:=hl
 unfold Id T111.at'
 cases l with
 | nil=>simp
 | cons c r=>
  simp only
  have hlen:(q++c::r).length=q.length+r.length+1:=by simp; omega
  have e1:((q++c::r).length:Int) - ((c::r).length:Int)=(q.length:Int):=by rw [hlen]; simp only [List.length_cons]; omega
  have e2:((q++c::r).length:Int) - (r.length:Int)=(q.length:Int)+1:=by rw [hlen]; omega
  rw [e1,e2,if_neg (by omega),F4 (n:=(q.length:Int)+1) (by omega) (by omega),F4 (by omega) (by omega),show(q.length:Int)+1 - 1=((q.length:Nat):Int) by omega]
  have hg:(q++c::r)[q.length]? = some c:=by rw [List.getElem?_append_right (by omega),Nat.sub_self]; rfl
  rw [T4 hg,R.ok_bind]
theorem Yy {B:List Int}(hB:B.length≤2000000000) : ∀ (l:List Int) (u i:Nat),C6 l→(∃ q,B=q++l)→i≤9→u<2 ^ (7 * i) →
  ∃ o,loop (Kd fun n i o=>Gd n i o) ((u:Int),(i:Int),T111.at' B l)=.ok o∧match I7 i l with
  | none => ∃ n s,G9 (fun o1=>Iq o1) (fun r=>.ok r) o=.ok (n,s)∧s.Bad=true
  | some (v,r)=>o=.inr (((u+v * 2 ^ (7 * i):Nat):Int),T111.at' B r)
 | [],u,i,hb,hl,hi,hu=>by
  have hw1:IntKind.wrap .i64 (7 * (i:Int))=((7 * i:Nat):Int):=by rw [F4 (by omega) (by omega)]; omega
  rw [Lg]
  simp only [Kd,Gd]
  rw [if_neg (by simp [T111.at']),Acx hB hl]
  simp only [R.ok_bind]
  by_cases h0:i=0
  ·subst h0
   rw [if_neg (by simp),if_pos (by rw [hw1]; omega),if_pos (by omega)]
   exact⟨_,rfl,_,_,rfl,rfl⟩
  ·rw [if_pos (by simp; omega)]
   exact⟨_,rfl,_,_,rfl,rfl⟩
 | c::l,u,i,hb,hl,hi,hu=>by
  have hc:=hb c (List.mem_cons_self ..)
  have hw1:IntKind.wrap .i64 (7 * (i:Int))=((7 * i:Nat):Int):=by rw [F4 (by omega) (by omega)]; omega
  have hw2:IntKind.wrap .i64 ((i:Int)+1)=((i+1:Nat):Int):=by rw [F4 (by omega) (by omega)]; omega
  have hl' : ∃ q,B=q++l:=by
   obtain⟨q,rfl⟩:=hl
   exact⟨q++[c],by simp⟩
  rw [Lg]
  simp only [Kd,Gd]
  rw [if_neg (by simp [T111.at']),Acx hB hl]
  simp only [R.ok_bind]
  rw [I7]
  by_cases hq:(i=0∨c≠0)∧(i<9∨c≤1)
  ·rw [if_pos hq,if_neg (by simp only [Bool.or_eq_true,Bool.and_eq_true,beq_iff_eq,decide_eq_true_eq]; omega),if_pos (by rw [hw1]; omega)]
   have hfit:=Abf hi (show i<9∨c.toNat≤1 by omega)
   have hacc:=Ajg (c:=c.toNat) hu
   have h64:u+(c.toNat % 128) * 2 ^ (7 * i)<18446744073709551616:=by
    rcases Nat.lt_or_ge i 9 with h | h
    ·have:2 ^ (7 * (i+1))≤2 ^ 63:=Nat.pow_le_pow_right (by omega) (by omega)
     omega
    ·have:i=9:=by omega
     subst this
     have h1:c.toNat % 128≤1:=by omega
     have h2:(c.toNat % 128) * 2 ^ (7 * 9)≤1 * 2 ^ (7 * 9):=Nat.mul_le_mul_right _ h1
     omega
   have hdig:IntKind.wrap .u64 ((u:Int)+Hq .u64 (IntKind.wrap .u64 (Int.tmod c 128)) (IntKind.wrap .i64 (7 * (i:Int))))=((u+(c.toNat % 128) * 2 ^ (7 * i):Nat):Int):=by
    rw [hw1,Int.tmod_eq_emod_of_nonneg hc.1,Er (n:=c % 128) (by omega)]
    unfold Hq
    rw [show min (((7 * i:Nat):Int).toNat) (IntKind.bits .u64)=7 * i by show min _ 64=_; omega,show c % 128=((c.toNat % 128:Nat):Int) by omega]
    have e:(((c.toNat % 128:Nat):Int) * 2 ^ (7 * i))=(((c.toNat % 128) * 2 ^ (7 * i):Nat):Int):=by push_cast; rfl
    rw [e,Er (n:=(((c.toNat % 128) * 2 ^ (7 * i):Nat):Int)) (by omega),Er (by omega)]
    push_cast; rfl
   by_cases hlt:c<128
   ·rw [if_pos hlt,if_pos hlt,hdig]
    refine⟨_,rfl,?_⟩
    simp only
    rw [show c.toNat % 128=c.toNat by omega]
   ·rw [if_neg hlt,if_neg hlt,hdig,hw2]
    simp only [R.ok_bind]
    obtain⟨o,e1,e2⟩:=Yy hB l _ (i+1) (fun b hb'=>hb b (List.mem_cons_of_mem _ hb')) hl' (by omega) hacc
    refine⟨o,e1,?_⟩
    cases hr:I7 (i+1) l with
    | none=>
     rw [hr] at e2
     exact e2
    | some p=>
     obtain⟨v,r⟩:=p
     rw [hr] at e2
     simp only at e2 ⊢
     rw [e2]
     congr 3
     have e:2 ^ (7 * (i+1))=128 * 2 ^ (7 * i):=by rw [show(128:Nat)=2 ^ 7 from rfl,← Nat.pow_add]; congr 1; omega
     rw [e,Nat.add_mul]
     have:v * (128 * 2 ^ (7 * i))=128 * v * 2 ^ (7 * i):=by rw [← Nat.mul_assoc,Nat.mul_comm v 128]
     omega
  ·rw [if_neg hq,if_pos (by simp only [Bool.or_eq_true,Bool.and_eq_true,beq_iff_eq,decide_eq_true_eq]; omega)]
   exact⟨_,rfl,_,_,rfl,rfl⟩
theorem Ah6 {B:List Int}(hB:B.length≤2000000000){l:List Int}(hb:C6 l)(hl : ∃ q,B=q++l) : ∃ n s,Gh (T111.at' B l)=.ok (n,s)∧match I7 0 l with
  | none=>s.Bad=true
  | some (v,r)=>n=(v:Int)∧s=T111.at' B r:=by
 obtain⟨o,e1,e2⟩:=Yy hB l 0 0 hb hl (by omega) (by simp)
 unfold Gh
 rw [show(((0:Int),(0:Int),T111.at' B l):Int×Int×T111)=(((0:Nat):Int),((0:Nat):Int),T111.at' B l) from rfl,e1,R.ok_bind]
 cases hr:I7 0 l with
 | none=>
  rw [hr] at e2
  obtain⟨n,s,e3,e4⟩:=e2
  exact⟨n,s,e3,e4⟩
 | some p=>
  obtain⟨v,r⟩:=p
  rw [hr] at e2
  simp only at e2
  rw [e2]
  exact⟨_,_,rfl,by simp,rfl⟩
end Rp
end Go.Am
namespace Go.Am
open Go
set_option linter.unusedVariables false
set_option linter.unusedSimpArgs false
namespace Rp
abbrev Rd:=List Int→Option (Value×List Int)
def Rt (f:Rd):Nat→List Int→Option (List Value×List Int)
 | 0,r=>some ([],r)
 | n+1,r=>match f r with
  | none=>none
  | some (v,r1)=>match Rt f n r1 with
   | none=>none
   | some (vs,r2)=>some (v::vs,r2)
def R0 (W:Option Rd)(l:List Int):Option (Value×List Int):=match l with
 | []=>none
 | c::r=>if c=1 then(match I7 0 r with
   | none=>none
   | some (u,r1)=>some ({ Kind:=1,N:=Xx u,S:=[],L:=[] },r1))
  else if c=2 then(match I7 0 r with
   | none=>none
   | some (n,r1)=>if n≤r1.length then some ({ Kind:=2,N:=0,S:=Be (r1.take n),L:=[] },r1.drop n) else none)
  else if c=3 then(match W with
   | none=>none
   | some f=>match I7 0 r with
    | none=>none
    | some (n,r1)=>if n≤r1.length then(match Rt f n r1 with
     | none=>none
     | some (vs,r2)=>some ({ Kind:=3,N:=0,S:=[],L:=vs },r2)) else none)
  else none
theorem Pl (W : Option Rd) (c : Int) (r : List Int) : R0 W (c :: r) = if c = 1 then (match I7 0 r with
      | none=>none
      | some (u,r1)=>some ({ Kind:=1,N:=Xx u,S:=[],L:=[] },r1))
    else if c=2 then(match I7 0 r with
      | none=>none
      | some (n,r1)=>if n≤r1.length then some ({ Kind:=2,N:=0,S:=Be (r1.take n),L:=[] },r1.drop n) else none)
    else if c=3 then(match W with
      | none=>none
      | some f=>match I7 0 r with
        | none=>none
        | some (n,r1)=>if n≤r1.length then(match Rt f n r1 with
          | none=>none
          | some (vs,r2)=>some ({ Kind:=3,N:=0,S:=[],L:=vs },r2)) else none)
    else none:=rfl
def Sv:Nat→Rd
 | 0=>R0 none
 | d+1=>R0 (some (Sv d))
def Sub (f:Rd):Prop := ∀ l v r,C6 l→f l=some (v,r) → ∃ q,l=q++r
theorem C6.app {q r:List Int}(h:C6 (q++r)):C6 r:=fun b hb=>h b (List.mem_append_right _ hb)
theorem C6.tail {c:Int}{r:List Int}(h:C6 (c::r)):C6 r:=fun b hb=>h b (List.mem_cons_of_mem _ hb)
theorem Aha {f:Rd}(hf:Sub f) : ∀ (n:Nat) (l:List Int) vs r,C6 l→Rt f n l=some (vs,r)→(∃ q,l=q++r)∧vs.length=n
 | 0,l,vs,r,hb,h=>by cases h; exact⟨⟨[],rfl⟩,rfl⟩
 | n+1,l,vs,r,hb,h=>by
  rw [Rt] at h
  split at h
  ·cases h
  ·rename_i v r1 h1
   split at h
   ·cases h
   ·rename_i vs' r2 h2
    cases h
    obtain⟨q1,e1⟩:=hf l v r1 hb h1
    subst e1
    obtain⟨⟨q2,e2⟩,hn⟩:=Aha hf n r1 vs' r hb.app h2
    subst e2
    exact⟨⟨q1++q2,by simp⟩,by simp [hn]⟩
theorem Ahf {W:Option Rd}(hW : ∀ f,W=some f→Sub f):Sub (R0 W):=by
 intro l v r hb h
 unfold R0 at h
 split at h
 ·cases h
 rename_i c l'
 have hb':=hb.tail
 split at h
 ·split at h
  ·cases h
  ·rename_i u r1 h1
   cases h
   obtain⟨q,e,_⟩:=Sf h1 hb'
   exact⟨c::q,by rw [e]; rfl⟩
 split at h
 ·split at h
  ·cases h
  ·rename_i n r1 h1
   split at h
   ·cases h
    obtain⟨q,e,_⟩:=Sf h1 hb'
    exact⟨c::(q++r1.take n),by rw [e,List.cons_append,List.append_assoc,List.take_append_drop]⟩
   ·cases h
 split at h
 ·split at h
  ·cases h
  ·rename_i f
   split at h
   ·cases h
   ·rename_i n r1 h1
    split at h
    ·split at h
     ·cases h
     ·rename_i vs r2 h2
      cases h
      obtain⟨q,e,_⟩:=Sf h1 hb'
      subst e
      obtain⟨⟨q2,e2⟩,_⟩:=Aha (hW f rfl) n r1 vs r hb'.app h2
      exact⟨c::(q++q2),by rw [e2,List.cons_append,List.append_assoc]⟩
    ·cases h
 ·cases h
theorem Adc : ∀ d,Sub (Sv d)
 | 0=>Ahf fun f h=>by cases h
 | d+1=>Ahf fun f h=>by cases h; exact Adc d
def Yc (o:Option (Value×List Int)):R (Value×T107):=match o with
 | none=>.pan Xt
 | some (v,r)=>.ok (v,⟨r⟩)
theorem length_eq {l:List Int}(hb:C6 l)(hl:l.length≤2000000000):Fe ⟨l⟩=match I7 0 l with
  | none=>.pan Xt
  | some (n,r)=>if n≤r.length then .ok ((n:Int),(⟨r⟩:T107)) else .pan Xt:=by
 unfold Fe
 rw [Adf hb]
 cases hr:I7 0 l with
 | none=>rfl
 | some p=>
  obtain⟨n,r⟩:=p
  obtain⟨q,e,_⟩:=Sf hr hb
  have hrl:r.length≤2000000000:=by rw [e] at hl; simp at hl; omega
  simp only [R.ok_bind]
  rw [T2,Er (n:=(r.length:Int)) (by omega)]
  by_cases h:n≤r.length
  ·rw [decide_eq_true (by omega),if_pos rfl,if_pos h,R.ok_bind,F4 (by omega) (by omega)]
  ·rw [decide_eq_false (by omega),if_neg h]
   rfl
theorem Ahh {W_:Int→T107→R (Value×T107)}{f:Rd}{depth:Int}{nn:Nat}{x0:T107}(hf:Sub f)(hW : ∀ l:List Int,C6 l→l.length≤2000000000→W_ (IntKind.wrap .i64 (depth+1)) ⟨l⟩=Yc (f l))(hn:nn≤2000000000) : ∀ (n k:Nat) (l:List Int) (vs:List Value),k+n=nn→vs.length=k→C6 l→l.length≤2000000000 →
  loop (Kd fun x o l=>D2 depth W_ ((nn:Int),x0) x o l) ((k:Int),(⟨l⟩:T107),vs)=match Rt f n l with
   | none=>.pan Xt
   | some (ws,r)=>.ok ((⟨r⟩:T107),vs++ws)
 | 0,k,l,vs,hk,hv,hb,hl=>by
  rw [Lg]
  have:(Kd fun x o l=>D2 depth W_ ((nn:Int),x0) x o l) ((k:Int),(⟨l⟩:T107),vs)=.ok (.inr (⟨l⟩,vs)):=by
   simp only [Kd,D2]
   rw [if_neg (by omega)]
  rw [this]
  simp [Rt]
 | n+1,k,l,vs,hk,hv,hb,hl=>by
  have hw:IntKind.wrap .i64 ((k:Int)+1)=((k+1:Nat):Int):=by rw [F4 (by omega) (by omega)]; omega
  have hst:(Kd fun x o l=>D2 depth W_ ((nn:Int),x0) x o l) ((k:Int),(⟨l⟩:T107),vs)=match f l with
    | none=>.pan Xt
    | some (v,r)=>.ok (.inl (((k+1:Nat):Int),(⟨r⟩:T107),vs++[v])):=by
   simp only [Kd,D2]
   rw [if_pos (by omega),hW l hb hl]
   cases f l with
   | none=>rfl
   | some p=>
    simp only [Yc,R.ok_bind]
    rw [if_pos (by simp only [List.length_singleton]; unfold C2; omega),hw]
  rw [Lg,hst,Rt]
  cases hfl:f l with
  | none=>rfl
  | some p=>
   obtain⟨v,r⟩:=p
   obtain⟨q,e⟩:=hf l v r hb hfl
   subst e
   simp only [R.ok_bind]
   rw [Ahh (x0:=x0) hf hW hn n (k+1) r (vs++[v]) (by omega) (by simp [hv]) hb.app (by simp at hl; omega)]
   cases Rt f n r with
   | none=>rfl
   | some p=>simp
theorem Adp {c:Int}(h:0≤c∧c<256):IntKind.wrap .i64 c=c:=F4 (by omega) (by omega)
theorem An5 (c:Int)(r:List Int):((c::r).drop 1)=r:=rfl
theorem Afl {W_:Int→T107→R (Value×T107)}{W:Option Rd}{depth:Int}(h1:W=none→¬ depth<16)(h2 : ∀ f,W=some f→depth<16∧Sub f ∧ ∀ l:List Int,C6 l→l.length≤2000000000→W_ (IntKind.wrap .i64 (depth+1)) ⟨l⟩=Yc (f l)){l:List Int}(hb:C6 l)(hl:l.length≤2000000000) :
  Eo W_ depth ⟨l⟩=Yc (R0 W l):=by
 unfold Eo
 rw [Aew]
 cases l with
 | nil=>rfl
 | cons c r=>
  have hc:=hb c (List.mem_cons_self ..)
  have hb':=hb.tail
  have hl':r.length≤2000000000:=by simp at hl; omega
  rw [if_neg (by simp)]
  simp only [R.ok_bind,show((c::r).take 1)=[c] from rfl,Al3,An5,Adp hc]
  rw [Pl]
  by_cases q1:c=1
  ·rw [if_pos (by simpa using q1),if_pos q1,Adf hb']
   cases hr:I7 0 r with
   | none=>rfl
   | some p=>
    obtain⟨u,r1⟩:=p
    have:=X2 r 0 hb' (by omega) u r1 hr
    simp only [R.ok_bind]
    rw [Aks (by simpa using this),q1]
    rfl
  rw [if_neg (by simpa using q1),if_neg q1]
  by_cases q2:c=2
  ·rw [if_pos (by simpa using q2),if_pos q2,length_eq hb' hl']
   cases hr:I7 0 r with
   | none=>rfl
   | some p=>
    obtain⟨n,r1⟩:=p
    simp only
    by_cases hn:n≤r1.length
    ·rw [if_pos hn,if_pos hn]
     simp only [R.ok_bind]
     rw [Ahj,if_pos hn,R.ok_bind,q2]
     rfl
    ·rw [if_neg hn,if_neg hn]
     rfl
  rw [if_neg (by simpa using q2),if_neg q2]
  by_cases q3:c=3
  ·rw [if_pos (by simpa using q3),if_pos q3,T2]
   cases hW:W with
   | none=>
    rw [decide_eq_false (h1 hW)]
    rfl
   | some f=>
    obtain⟨g1,g2,g3⟩:=h2 f hW
    rw [decide_eq_true g1,if_pos rfl,R.ok_bind,length_eq hb' hl']
    cases hr:I7 0 r with
    | none=>rfl
    | some p=>
     obtain⟨n,r1⟩:=p
     obtain⟨q,e,_⟩:=Sf hr hb'
     subst e
     simp only
     by_cases hn:n≤r1.length
     ·rw [if_pos hn,if_pos hn]
      simp only [R.ok_bind]
      have hr1:r1.length≤2000000000:=by simp at hl'; omega
      have:=Ahh (x0:=(⟨r1⟩:T107)) g2 g3 (nn:=n) (by omega) n 0 r1 [] (by omega) rfl hb'.app hr1
      rw [show(((0:Int),(⟨r1⟩:T107),([]:List Value)):Int×T107×List Value)=(((0:Nat):Int),⟨r1⟩,[]) from rfl,this]
      cases Rt f n r1 with
      | none=>rfl
      | some p=>
       obtain⟨vs,r2⟩:=p
       simp only [R.ok_bind,Eu,Hl,Adp hc,q3,List.nil_append]
       rfl
     ·rw [if_neg hn,if_neg hn]
      rfl
  ·rw [if_neg (by simpa using q3),if_neg q3,T2]
   rfl
theorem Afy : ∀ (n d:Nat) (depth:Int),d<n→depth=16 - (d:Int)→d≤16 → ∀ l:List Int,C6 l→l.length≤2000000000→E1 n depth ⟨l⟩=Yc (Sv d l)
 | 0,d,depth,h1,h2,h3,l,hb,hl=>by omega
 | n+1,0,depth,h1,h2,h3,l,hb,hl=>by
  show Eo (E1 n) depth ⟨l⟩=Yc (R0 none l)
  exact Afl (fun _=>by omega) (fun f h=>by cases h) hb hl
 | n+1,d+1,depth,h1,h2,h3,l,hb,hl=>by
  show Eo (E1 n) depth ⟨l⟩=Yc (R0 (some (Sv d)) l)
  refine Afl (fun h=>by cases h) (fun f h=>?_) hb hl
  cases h
  refine⟨by omega,Adc d,fun l hb hl=>?_⟩
  rw [F4 (by omega) (by omega)]
  exact Afy n d (depth+1) (by omega) (by omega) (by omega) l hb hl
def Aof:Value:={ Kind:=0,N:=0,S:=[],L:=[] }
def Ma (b:List Int):Value×Int:=match Sv 16 b with
 | some (v,[])=>(v,0)
 | _=>(Aof,10)
theorem Adq {b:List Int}(hb:C6 b)(hl:b.length≤2000000000):Nr b=.ok (Ma b):=by
 unfold Nr Lf I0 Ma
 rw [Afy Jv 16 0 (by rw [Me]; omega) (by omega) (by omega) b hb hl]
 cases Sv 16 b with
 | none=>rfl
 | some p=>
  obtain⟨v,r⟩:=p
  simp only [Yc,R.ok_bind]
  rw [T2]
  cases r with
  | nil=>rfl
  | cons a r=>
   rw [show((((a::r).length:Nat):Int)==0)=false by simp; omega]
   rfl
end Rp
end Go.Am
namespace Go.Am
open Go
set_option linter.unusedVariables false
set_option linter.unusedSimpArgs false
namespace Rp
def okR (B:List Int)(o:Option (Value×List Int))(x:R (Value×T111)):Prop := ∃ v s,x=.ok (v,s)∧match o with
 | none=>s.Bad=true
 | some (v',r)=>v=v'∧s=T111.at' B r
theorem Aa5 (B l:List Int):(T111.at' B l).Bad=false:=rfl
theorem Ahw {B:List Int}{W_:Int→T111→R (Value×T111)}{f:Rd}{b:Int}{nn:Nat}{x0:T111}(hf:Sub f)(hB:C6 B)(hW : ∀ l:List Int,(∃ q,B=q++l)→okR B (f l) (W_ (IntKind.wrap .i64 (b+1)) (T111.at' B l)))(hn:nn≤2000000000) : ∀ (n k:Nat) (l:List Int) (vs:List Value),k+n=nn→vs.length=k→(∃ q,B=q++l) →
  ∃ o' vs',loop (Kd fun x2 o l=>D1 b W_ ((nn:Int),x0) x2 o l) ((k:Int),T111.at' B l,vs)=.ok (o',vs')∧match Rt f n l with
   | none=>o'.Bad=true
   | some (ws,r)=>o'=T111.at' B r∧vs'=vs++ws
 | 0,k,l,vs,hk,hv,hl=>by
  have hst:(Kd fun x2 o l=>D1 b W_ ((nn:Int),x0) x2 o l) ((k:Int),T111.at' B l,vs)=.ok (.inr (T111.at' B l,vs)):=by
   simp only [Kd,D1]
   rw [if_neg (by simp; omega)]
  rw [Lg,hst]
  exact⟨_,_,rfl,rfl,by simp⟩
 | n+1,k,l,vs,hk,hv,hl=>by
  have hw:IntKind.wrap .u64 ((k:Int)+1)=((k+1:Nat):Int):=by rw [Er (by omega)]; omega
  obtain⟨v,s,e1,e2⟩:=hW l hl
  have hst:(Kd fun x2 o l=>D1 b W_ ((nn:Int),x0) x2 o l) ((k:Int),T111.at' B l,vs)=.ok (.inl (((k+1:Nat):Int),s,vs++[v])):=by
   simp only [Kd,D1]
   rw [if_pos (by simp only [Aa5,Bool.not_false,Bool.and_true,decide_eq_true_eq]; omega),e1,R.ok_bind,if_pos (by simp only [List.length_singleton]; unfold C2; omega),hw]
  rw [Lg,hst,Rt]
  simp only [R.ok_bind]
  cases hfl:f l with
  | none=>
   rw [hfl] at e2
   have hst2:(Kd fun x2 o l=>D1 b W_ ((nn:Int),x0) x2 o l) (((k+1:Nat):Int),s,vs++[v])=.ok (.inr (s,vs++[v])):=by
    simp only [Kd,D1]
    rw [if_neg (by simp [show s.Bad=true from e2])]
   rw [Lg,hst2]
   exact⟨_,_,rfl,e2⟩
  | some p=>
   obtain⟨v',r⟩:=p
   rw [hfl] at e2
   obtain⟨rfl,rfl⟩:=e2
   obtain⟨q,e⟩:=hl
   have hbl:C6 l:=by rw [e] at hB; exact hB.app
   obtain⟨q2,e2⟩:=hf l v r hbl hfl
   obtain⟨o',vs',h1,h2⟩:=Ahw (x0:=x0) hf hB hW hn n (k+1) r (vs++[v]) (by omega) (by simp [hv]) ⟨q++q2,by rw [e,e2,List.append_assoc]⟩
   refine⟨o',vs',h1,?_⟩
   simp only
   cases hr:Rt f n r with
   | none=>rw [hr] at h2; exact h2
   | some p=>
    obtain⟨ws,r2⟩:=p
    rw [hr] at h2
    exact⟨h2.1,by rw [h2.2]; simp⟩
theorem Ai3 {B q l:List Int}(h:B=q++l):(B.length:Int) - l.length=q.length:=by rw [h]; simp
theorem Aem {B:List Int}{W_:Int→T111→R (Value×T111)}{W:Option Rd}{b:Int}(hB:C6 B)(hBl:B.length≤2000000000)(h1:W=none→b=16)
  (h2 : ∀ f,W=some f→b≠16∧Sub f ∧ ∀ l:List Int,(∃ q,B=q++l)→okR B (f l) (W_ (IntKind.wrap .i64 (b+1)) (T111.at' B l))) {l:List Int} (hl : ∃ q,B=q++l) :
  okR B (R0 W l) (F8 W_ b (T111.at' B l)):=by
 unfold F8
 rw [Acx hBl hl]
 cases l with
 | nil=>
  simp only [R.ok_bind]
  exact⟨_,_,rfl,rfl⟩
 | cons c r=>
  obtain⟨q,e⟩:=hl
  have hbl:C6 (c::r):=by rw [e] at hB; exact hB.app
  have hb':=hbl.tail
  have hl' : ∃ q,B=q++r:=⟨q++[c],by rw [e]; simp⟩
  obtain⟨n,s,e1,e2⟩:=Ah6 hBl hb' hl'
  simp only [R.ok_bind]
  rw [Pl]
  by_cases q1:c=1
  ·rw [if_pos q1,if_pos (show(c==1)=true by simpa using q1),e1,R.ok_bind]
   cases hr:I7 0 r with
   | none=>
    rw [hr] at e2
    simp only
    split
    ·exact⟨_,_,rfl,e2⟩
    ·exact⟨_,_,rfl,e2⟩
   | some p=>
    obtain⟨u,r1⟩:=p
    rw [hr] at e2
    obtain⟨rfl,rfl⟩:=e2
    have hu:=X2 r 0 hb' (by omega) u r1 hr
    have hu':u<18446744073709551616:=by simpa using hu
    simp only
    have et:Int.tmod (u:Int) 2=((u % 2:Nat):Int):=by rw [Int.tmod_eq_emod_of_nonneg (by omega)]; omega
    have ed:Int.tdiv (u:Int) 2=((u / 2:Nat):Int):=by rw [Int.tdiv_eq_ediv_of_nonneg (by omega)]; omega
    rw [et,ed,Er (n:=((u / 2:Nat):Int)) (by omega),F4 (n:=((u / 2:Nat):Int)) (by omega) (by omega),F4 (n:=0 - ((u / 2:Nat):Int)) (by omega) (by omega),F4 (by omega) (by omega)]
    by_cases hp:u % 2=0
    ·rw [if_neg (by rw [hp]; decide)]
     exact⟨_,_,rfl,by rw [Xx,if_pos hp],rfl⟩
    ·have hp1:u % 2=1:=by omega
     rw [if_pos (by rw [hp1]; decide)]
     refine⟨_,_,rfl,?_,rfl⟩
     rw [Xx,if_neg hp]
     congr 1
     omega
  rw [if_neg q1,if_neg (show ¬ (c==1)=true by simpa using q1)]
  by_cases q2:c=2
  ·rw [if_pos q2,if_pos (show(c==2)=true by simpa using q2),e1,R.ok_bind]
   cases hr:I7 0 r with
   | none=>
    rw [hr] at e2
    simp only
    rw [if_pos e2]
    exact⟨_,_,rfl,rfl⟩
   | some p=>
    obtain⟨u,r1⟩:=p
    rw [hr] at e2
    obtain⟨rfl,rfl⟩:=e2
    obtain⟨qn,en,_⟩:=Sf hr hb'
    have eB:B=(q++c::qn)++r1:=by rw [e,en]; simp
    have hlen:=Ai3 eB
    have hu:=X2 r 0 hb' (by omega) u r1 hr
    simp only
    rw [Aa5,if_neg (show ¬ (false=true) by simp)]
    have hBl':B.length=(q++c::qn).length+r1.length:=by rw [eB,List.length_append]
    have e3:IntKind.wrap .u64 (IntKind.wrap .i64 (((T111.at' B r1).B.length:Int) - (T111.at' B r1).At))=(r1.length:Int):=by
     show IntKind.wrap .u64 (IntKind.wrap .i64 ((B.length:Int) - ((B.length:Int) - r1.length)))=_
     rw [show(B.length:Int) - ((B.length:Int) - r1.length)=r1.length by omega,F4 (by omega) (by omega),Er (by omega)]
    rw [e3]
    unfold I9
    by_cases hn:u≤r1.length
    ·rw [decide_eq_false (by omega),if_neg (show ¬ (false=true) by simp),if_pos hn]
     have hAt:(T111.at' B r1).At=((q++c::qn).length:Int):=hlen
     have ew:IntKind.wrap .i64 (u:Int)=(u:Int):=F4 (by omega) (by omega)
     have ew2:IntKind.wrap .i64 ((T111.at' B r1).At+(u:Int))=(((q++c::qn).length+u:Nat):Int):=by rw [hAt,F4 (by omega) (by omega)]; omega
     have ew3:IntKind.wrap .i64 ((((q++c::qn).length+u:Nat):Int) - (u:Int))=((q++c::qn).length:Int):=by rw [F4 (by omega) (by omega)]; omega
     simp only [ew,ew2,ew3]
     rw [if_pos (by show 0≤((q++c::qn).length:Int)∧((q++c::qn).length:Int)≤(((q++c::qn).length+u:Nat):Int)∧(((q++c::qn).length+u:Nat):Int)≤(B.length:Int); omega)]
     refine⟨_,_,rfl,?_,?_⟩
     ·congr 2
      show X4 B ((q++c::qn).length:Int) (((q++c::qn).length+u:Nat):Int)=r1.take u
      unfold X4
      rw [show((((q++c::qn).length:Nat):Int).toNat)=(q++c::qn).length by omega,show((((q++c::qn).length+u:Nat):Int).toNat) - (q++c::qn).length=u by omega,eB,List.drop_left]
     ·show({ B:=B,At:=(((q++c::qn).length+u:Nat):Int),Bad:=false }:T111)=T111.at' B (r1.drop u)
      unfold T111.at'
      congr 1
      rw [List.length_drop]
      omega
    ·rw [decide_eq_true (by omega),if_pos (show(true=true) from rfl),if_neg hn]
     exact⟨_,_,rfl,rfl⟩
  rw [if_neg q2,if_neg (show ¬ (c==2)=true by simpa using q2)]
  by_cases q3:c=3
  ·rw [if_pos q3,if_pos (show(c==3)=true by simpa using q3),e1,R.ok_bind]
   cases hr:I7 0 r with
   | none=>
    rw [hr] at e2
    simp only
    rw [if_pos e2]
    have:okR B none (Fj b W_ (n,s) true):=⟨_,_,rfl,rfl⟩
    cases W with
    | none=>exact this
    | some f=>exact this
   | some p=>
    obtain⟨u,r1⟩:=p
    rw [hr] at e2
    obtain⟨rfl,rfl⟩:=e2
    obtain⟨qn,en,_⟩:=Sf hr hb'
    have eB:B=(q++c::qn)++r1:=by rw [e,en]; simp
    have hlen:=Ai3 eB
    have hBl':B.length=(q++c::qn).length+r1.length:=by rw [eB,List.length_append]
    simp only
    rw [Aa5,if_neg (show ¬ (false=true) by simp)]
    have e3:IntKind.wrap .u64 (IntKind.wrap .i64 (((T111.at' B r1).B.length:Int) - (T111.at' B r1).At))=(r1.length:Int):=by
     show IntKind.wrap .u64 (IntKind.wrap .i64 ((B.length:Int) - ((B.length:Int) - r1.length)))=_
     rw [show(B.length:Int) - ((B.length:Int) - r1.length)=r1.length by omega,F4 (by omega) (by omega),Er (by omega)]
    rw [e3]
    have bad:okR B none (Fj b W_ ((u:Int),T111.at' B r1) true):=⟨_,_,rfl,rfl⟩
    by_cases hn:u≤r1.length
    ·rw [if_neg (by simp; omega)]
     cases hW:W with
     | none=>
      rw [h1 hW]
      rw [h1 hW] at bad
      exact bad
     | some f=>
      obtain⟨g1,g2,g3⟩:=h2 f hW
      simp only
      rw [if_pos hn]
      unfold Fj
      rw [if_neg (by simpa using g1)]
      obtain⟨o',vs',w1,w2⟩:=Ahw (x0:=T111.at' B r1) g2 hB g3 (nn:=u) (by omega) u 0 r1 [] (by omega) rfl ⟨_,eB⟩
      rw [show(((0:Int),T111.at' B r1,([]:List Value)):Int×T111×List Value)=(((0:Nat):Int),T111.at' B r1,[]) from rfl,w1]
      simp only [R.ok_bind,Eu,I8]
      cases hL:Rt f u r1 with
      | none=>
       rw [hL] at w2
       exact⟨_,_,rfl,w2⟩
      | some p=>
       obtain⟨ws,r2⟩:=p
       rw [hL] at w2
       exact⟨_,_,rfl,by rw [w2.2]; rfl,w2.1⟩
    ·rw [if_pos (by simp; omega)]
     cases W with
     | none=>exact bad
     | some f=>
      simp only
      rw [if_neg hn]
      exact bad
  ·rw [if_neg q3,if_neg (show ¬ (c==3)=true by simpa using q3)]
   exact⟨_,_,rfl,rfl⟩
theorem Aeo {B:List Int}(hB:C6 B)(hBl:B.length≤2000000000) : ∀ (n d:Nat) (b:Int),d<n→b=16 - (d:Int)→d≤16 → ∀ l:List Int,(∃ q,B=q++l)→okR B (Sv d l) (F6 n b (T111.at' B l))
 | 0,d,b,h1,h2,h3,l,hl=>by omega
 | n+1,0,b,h1,h2,h3,l,hl=>by
  show okR B (R0 none l) (F8 (F6 n) b (T111.at' B l))
  exact Aem hB hBl (fun _=>by omega) (fun f h=>by cases h) hl
 | n+1,d+1,b,h1,h2,h3,l,hl=>by
  show okR B (R0 (some (Sv d)) l) (F8 (F6 n) b (T111.at' B l))
  refine Aem hB hBl (fun h=>by cases h) (fun f h=>?_) hl
  cases h
  refine⟨by omega,Adc d,fun l hl=>?_⟩
  rw [F4 (by omega) (by omega)]
  exact Aeo hB hBl n d (b+1) (by omega) (by omega) (by omega) l hl
theorem Ajx {B:List Int}(hB:C6 B)(hBl:B.length≤2000000000):okR B (Sv 16 B) (Ms 0 { B:=B,At:=0,Bad:=false }):=by
 have:=Aeo hB hBl Jv 16 0 (by rw [Me]; omega) (by omega) (by omega) B ⟨[],rfl⟩
 unfold T111.at' at this
 rw [Int.sub_self] at this
 exact this
end Rp
end Go.Am

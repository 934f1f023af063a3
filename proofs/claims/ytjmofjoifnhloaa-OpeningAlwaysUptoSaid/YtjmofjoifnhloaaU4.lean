/- Written by shrink.py from texts of ours: comments struck, what is not reached left out, names short. -/
import Derived.Test.YtjmofjoifnhloaaU3
import Derived.Test.YtjmofjoifnhloaaU1
import Derived.Test.YtjmofjoifnhloaaU2
import Derived.RangeFuncIn
import Derived.RangeFuncLeaves
import Derived.Shelf.SlIterI.Nil
import Derived.Deep.DeepHandedRow
import Derived.Lib.LaidU8
import Derived.Lay
import Derived.MakeChecks
import Derived.LaidMore
import Derived.WideKeyElems2
import Derived.KernelRfl
import Derived.Lib.Bytealg
import Derived.Lib.ItoaNum
import Derived.Lib.Join
import Derived.Lib.AtoiAll
import Derived.Ground.GgzProg
import Derived.Shelf.Small.Bits
import Derived.Shelf.Strconv.Itoa0
import Derived.Ground.Names2Prog
import Derived.Shelf.Slices.SearchI
import Derived.Ground.SlgmProg
import Derived.Shelf.SortM.Plain
import Derived.Shelf.SortM.SortNone
import Derived.Test.YtjmofjoifnhloaaProg
namespace Go.Am
open Go
set_option linter.unusedSimpArgs false
set_option linter.unusedVariables false
set_option linter.unusedSectionVars false
inductive AFz (h h2:O):AO→AO→Prop
 | same (x:AO):AFz h h2 x x
 | rows (g st:Nat) (rs rs':List (List AV)) (hl:rs.length=rs'.length) (hr : ∀ r ∈ rs',Bf st r) (hc : ∀ i j,i<rs.length→j<st→Fz h h2 (cell rs i j) (cell rs' i j)):AFz h h2 (.rows g st rs) (.rows g st rs')
def R3 (h h2:O):Prop := ∀ o y,h2 o=some y → ∃ x,h o=some x∧AFz h h2 x y
theorem AFz.gen {h h2:O}{x y:AO}(k:AFz h h2 x y):x.gen=y.gen:=by cases k <;> rfl
theorem R3.subG {h h2:O}(k:R3 h h2):Uv h2 h:=fun o y e=>let ⟨x,h1,h2⟩:=k o y e; ⟨x,h1,h2.gen⟩
theorem Sim.fz {P:Program}[GW P]{B:Base P}{mu:Mu}{h h2:O}{w:World}(s:Sim B mu h w)(k:R3 h h2):Sim B mu h2 w:=by
 refine⟨s.base,s.muOk,s.fin,?_,?_,?_,?_,s.glob,fun o g x e=>by
  obtain⟨y,h1,hx⟩:=k o _ e
  cases hx with
  | same _=>exact s.blks o g x h1⟩
 ·obtain⟨N,hN⟩:=s.finh
  refine⟨N,fun o ho=>?_⟩
  cases hq:h2 o with
  | none=>rfl
  | some y=>obtain⟨x,h1,_⟩:=k o y hq; rw [hN o ho] at h1; cases h1
 ·intro o g st rs e
  obtain⟨x,h1,hx⟩:=k o _ e
  cases hx with
  | same _=>
   obtain⟨l,k1,k2,k3,k4,k5,k6⟩:=s.rows o g st rs h1
   exact⟨l,k1,k2,k3,k4,k5,fun i j hi hj=>let ⟨c,c1,c2⟩:=k6 i j hi hj; ⟨c,c1,Ew s k.subG (.same _) c2⟩⟩
  | rows _ _ rs0 _ hl hr hc=>
   obtain⟨l,k1,k2,k3,k4,k5,k6⟩:=s.rows o g st rs0 h1
   exact⟨l,k1,k2,k3,by rw [← hl]; exact k4,hr,fun i j hi hj=>let ⟨c,c1,c2⟩:=k6 i j (hl ▸ hi) hj; ⟨c,c1,Ew s k.subG (hc i j (hl ▸ hi) hj) c2⟩⟩
 ·intro o g es e
  obtain⟨x,h1,hx⟩:=k o _ e
  cases hx with
  | same _=>
   obtain⟨l,k1,k2,ens,clock,k3,k4,k5⟩:=s.maps o g es h1
   exact⟨l,k1,k2,ens,clock,k3,k4,fun i hi=>⟨Ew s k.subG (.same _) (k5 i hi).1,Ew s k.subG (.same _) (k5 i hi).2⟩⟩
 ·intro o o' x x' l l' e e' h1 h2 hb
  obtain⟨y,k1,k2⟩:=k _ _ e
  obtain⟨y',k1',k2'⟩:=k _ _ e'
  exact s.inj o o' y y' l l' k1 k1' (by rw [k2.gen]; exact h1) (by rw [k2'.gen]; exact h2) hb
section
variable {P:Program} [GW P] {f:FuncId} {n:Nat} {d:FK} {fr:Nat→AV} {ds:List AD} {h h2:O} {u:AU} {Q:QT} {k:List Item}
theorem Xx {todo:List Item}{fr':Nat→AV}(hs:R3 h h2)(hz : ∀ t,Fz h h2 (fr t) (fr' t))(hr:Cc P f n d todo fr' ds h2 u Q):Cc P f n d todo fr ds h u Q:=by
 intro B mu w a cs p
 exact(hr B mu w a cs ⟨p.size,fun t=>Ew p.sim hs.subG (hz t) (p.fr t),p.ds.ext (Bw.subG hs.subG),p.sim.fz hs,p.cs.ext (Bw.subG hs.subG),p.rnd,p.fb⟩).ext (Bw.subG hs.subG)
theorem Pu {fn:Func}{vs:List AV}{v':AV}(hf:P.funcs[f]? = some fn)(hx:C7 P h fr fn.results.toList=some vs)(hs:R3 h h2)(hz:Fz h h2 (Ec vs) v')(hu:d=false)(hq:Q (.ret v') h2 u):Gk P f n d .ret fr [] h u Q:=by
 intro B mu w a cs todo mode p hm
 obtain⟨c,h1,h2'⟩:=Kr p.sim p.fr hx
 have hd:a.defers=[]:=p.ds
 have hmode:=hm.ret_inv
 refine⟨.returned c,w,cs,_,.ret v',h2,mu,u,hq,Steps.refl P _,rfl,rfl,(by subst hu; exact⟨hmode,hd,fn,hf,h1⟩),Ew p.sim hs.subG hz h2',p.sim.fz hs,(Bw.subG hs.subG).g,?_⟩
 subst hu
 rfl
end
inductive HL (h h2:O):List (Option AO)→List (Option AO)→Prop
 | nil:HL h h2 [] []
 | keep {x:Option AO} {xs ys:List (Option AO)} (r:HL h h2 xs ys):HL h h2 (x::xs) (x::ys)
 | drop {x:Option AO} {xs ys:List (Option AO)} (r:HL h h2 xs ys):HL h h2 (x::xs) (none::ys)
 | fz {g st:Nat} {row row':List AV} {xs ys:List (Option AO)} (hz:LF h h2 row row') (hl:row'.length=st) (hf:row'.all AV.flat=true) (r:HL h h2 xs ys):HL h h2 (some (.rows g st [row])::xs) (some (.rows g st [row'])::ys)
theorem HL.get {h h2:O}{xs ys:List (Option AO)}(k:HL h h2 xs ys):xs.length=ys.length ∧ ∀ (j:Nat) (y:AO),ys[j]? = some (some y) → ∃ x,xs[j]? = some (some x)∧AFz h h2 x y:=by
 induction k with
 | nil=>exact⟨rfl,fun j y e=>by simp at e⟩
 | keep r ih=>
  refine⟨by simp [ih.1],fun j y e=>?_⟩
  cases j with
  | zero=>simp only [List.getElem?_cons_zero,Option.some.injEq] at e; subst e; exact⟨y,by simp,.same _⟩
  | succ j=>simpa using ih.2 j y (by simpa using e)
 | drop r ih=>
  refine⟨by simp [ih.1],fun j y e=>?_⟩
  cases j with
  | zero=>simp at e
  | succ j=>simpa using ih.2 j y (by simpa using e)
 | @fz g st row row' xs ys hz hl hf r ih=>
  refine⟨by simp [ih.1],fun j y e=>?_⟩
  cases j with
  | zero=>
   simp only [List.getElem?_cons_zero,Option.some.injEq] at e
   subst e
   refine⟨.rows g st [row],by simp only [List.getElem?_cons_zero],.rows g st [row] [row'] rfl ?_ ?_⟩
   ·intro r hr
    rw [List.mem_singleton.1 hr]
    exact⟨hl,fun v hv=>List.all_eq_true.1 hf v hv⟩
   ·intro i j hi hj
    have:i=0:=by simpa using hi
    subst this
    have:=hz.all.2 j (by rw [hz.all.1,hl]; exact hj)
    simpa [cell] using this
  | succ j=>simpa using ih.2 j y (by simpa using e)
theorem HL.hfz {h0:O}{ids:List Nat}{N:Nat}{xs ys:List (Option AO)}(hI:Ids h0 ids N)(hl:xs.length=N)(k:HL (hp h0 ids xs) (hp h0 ids ys) xs ys):R3 (hp h0 ids xs) (hp h0 ids ys):=by
 intro o y e
 obtain⟨k1,k2⟩:=k.get
 by_cases ho:o ∈ ids
 ·obtain⟨j,hj,rfl⟩:=List.mem_iff_getElem.1 ho
  have ej:ids[j]=ix ids j:=by simp [ix,List.getD,hj]
  rw [ej] at e ⊢
  have hjl:j<ys.length:=by rw [← k1,hl,← hI.len]; exact hj
  have hy:=hI.at (xs:=ys) (j:=j) (x:=ys[j]) (by rw [← k1,hl]) (List.getElem?_eq_getElem hjl)
  rw [hy] at e
  obtain⟨x,hx,hz⟩:=k2 j y (by rw [List.getElem?_eq_getElem hjl,e])
  exact⟨x,hI.at hl hx,hz⟩
 ·rw [J9 ho] at e
  exact⟨y,by rw [J9 ho]; exact e,.same _⟩
section
variable {P:Program} [GW P] {f:FuncId} {n:Nat} {d:FK} {β:Type} {Q:Spec β} {m:R β} {ds:List AD} {u:AU} {k:List Item} {l:List (Nat×AV)} {all:List Oper}
variable {h0:O} {ids:List Nat} {xs:List (Option AO)} {N:Nat}
theorem Acm {ops:List Oper}(ys:List (Option AO))(l':List (Nat×AV))(hI:Ids h0 ids N)(hl:xs.length=N)(hx:HL (hp h0 ids xs) (hp h0 ids ys) xs ys)(hf:FrFz (hp h0 ids xs) (hp h0 ids ys) l l')
  (hr:WO P f n d Q k all m ops (Ae l') ds (hp h0 ids ys) u):WO P f n d Q k all m ops (Ae l) ds (hp h0 ids xs) u:=fun hb i hi=>Xx (hx.hfz hI hl) hf.get (hr hb i hi)
end
def Mo:List Nat→List (Option AO)→List (Option AO)
 | [],xs=>xs
 | j::js,xs=>Mo js (xs.set j none)
def Kk:List Nat→List (Option AO)→List (Option AO)→List (Option AO)
 | j::js,y::ys,xs=>(Kk js ys (xs.set j none)).set j y
 | _,_,xs=>xs
def Pl (ids:List Nat):List Nat→List Nat
 | []=>[]
 | j::js=>ix ids j::Pl ids js
def Kj (N:Nat):List Nat→Bool
 | []=>true
 | j::js=>Nat.blt j N && !js.contains j&&Kj N js
theorem Wc : ∀ (js:List Nat) (xs:List (Option AO)),(Mo js xs).length=xs.length
 | [],_=>rfl
 | j::js,xs=>by rw [Mo,Wc js]; simp
theorem Tf : ∀ (js:List Nat) (ys xs:List (Option AO)),(Kk js ys xs).length=xs.length
 | [],_,_=>by simp [Kk]
 | _::_,[],_=>by simp [Kk]
 | j::js,y::ys,xs=>by rw [Kk,List.length_set,Tf js]; simp
theorem Tv : ∀ (js:List Nat) (xs:List (Option AO)) (i:Nat),xs[i]? = some none→(Mo js xs)[i]? = some none
 | [],_,_,h=>h
 | j::js,xs,i,h=>Tv js _ i (by
  rw [List.getElem?_set]
  split
  ·rename_i hq; subst hq
   rw [if_pos]
   rcases Nat.lt_or_ge j xs.length with hh | hh
   ·exact hh
   ·rw [List.getElem?_eq_none hh] at h; cases h
  ·exact h)
theorem Xl : ∀ (js:List Nat) (xs:List (Option AO)) (i:Nat),i ∈ js→i<xs.length→(Mo js xs)[i]? = some none
 | j::js,xs,i,hm,hi=>by
  rcases List.mem_cons.1 hm with rfl | hm
  ·exact Tv js _ i (by simp [hi])
  ·exact Xl js _ i hm (by simpa using hi)
section
variable {h0:O} {ids:List Nat} {N:Nat}
theorem Tm (hI:Ids h0 ids N) : ∀ {js:List Nat} {ys xs:List (Option AO)},xs.length=N→js.length=ys.length→Kj N js=true→hp (hp h0 ids (Mo js xs)) (Pl ids js) ys=hp h0 ids (Kk js ys xs)
 | [],[],xs,_,_,_=>rfl
 | j::js,y::ys,xs,hl,hj,hk=>by
  simp only [Kj,Bool.and_eq_true] at hk
  simp only [Pl,hp,Mo,Kk]
  rw [Tm hI (js:=js) (ys:=ys) (xs:=xs.set j none) (by simpa using hl) (by simpa using hj) hk.2]
  rw [hI.set (by rw [Tf]; simpa using hl) hk.1.1]
theorem Ids.sub' (hI:Ids h0 ids N){js:List Nat}{xs:List (Option AO)}(hl:xs.length=N)(hk:Kj N js=true):Ids (hp h0 ids (Mo js xs)) (Pl ids js) js.length:=by
 have hlt : ∀ {js:List Nat},Kj N js=true → ∀ j ∈ js,j<N:=by
  intro js
  induction js with
  | nil=>intro _ j hj; cases hj
  | cons i js ih=>
   intro hk j hj
   simp only [Kj,Bool.and_eq_true] at hk
   rcases List.mem_cons.1 hj with rfl | hj
   ·simpa using hk.1.1
   ·exact ih hk.2 j hj
 have hmem : ∀ {js:List Nat} {o:Nat},o ∈ Pl ids js → ∃ j ∈ js,o=ix ids j:=by
  intro js
  induction js with
  | nil=>intro o ho; cases ho
  | cons i js ih=>
   intro o ho
   rcases List.mem_cons.1 ho with rfl | ho
   ·exact⟨i,List.mem_cons_self ..,rfl⟩
   ·obtain⟨j,h1,h2⟩:=ih ho; exact⟨j,List.mem_cons_of_mem _ h1,h2⟩
 have hinj : ∀ {i j:Nat},i<N→j<N→ix ids i=ix ids j→i=j:=by
  intro i j hi hj e
  rw [← hI.len] at hi hj
  simp only [ix,List.getD,List.getElem?_eq_getElem hi,List.getElem?_eq_getElem hj,Option.getD_some] at e
  rcases Nat.lt_trichotomy i j with hh | hh | hh
  ·exact absurd e (List.pairwise_iff_getElem.1 hI.nodup i j hi hj hh)
  ·exact hh
  ·exact absurd e.symm (List.pairwise_iff_getElem.1 hI.nodup j i hj hi hh)
 refine⟨?_,?_,?_⟩
 ·have key : ∀ {js:List Nat},Kj N js=true→(Pl ids js).Nodup:=by
   intro js
   induction js with
   | nil=>intro _; exact List.nodup_nil
   | cons i js ih=>
    intro hk
    have hk':=hk
    simp only [Kj,Bool.and_eq_true] at hk
    refine List.nodup_cons.2 ⟨fun hm=>?_,ih hk.2⟩
    obtain⟨j,h1,h2⟩:=hmem hm
    have:=hinj (by simpa using hk.1.1) (hlt hk.2 j h1) h2
    subst this
    have:=hk.1.2
    simp [h1] at this
  exact key hk
 ·intro o ho
  obtain⟨j,h1,rfl⟩:=hmem ho
  exact hI.at (by rw [Wc]; exact hl) (Xl js xs j h1 (by rw [hl]; exact hlt hk j h1))
 ·clear hk
  induction js with
  | nil=>rfl
  | cons i js ih=>simp only [Pl,List.length_cons]; rw [ih]
end
def Km {α:Type}(S:α→AV→O→Prop)(h0:O)(m:R α):AR→O→Prop:=fun r h'=>match m with
 | .ok a => ∃ v,r=.ret v∧S a v h'
 | .pan v=>r=.panic v.av∧h'=h0
 | .bad=>False
def Q0 {α:Type}(S:α→AV→O→Prop)(h0:O):Spec α:=⟨fun m=>m≠.bad,fun h=>h rfl,fun m r h' _=>Km S h0 m r h'⟩
def R2 (ids:List Nat):Nat→Nat→List Nat
 | 0,_=>[]
 | k+1,j=>ix ids j::R2 ids k (j+1)
theorem Ud : ∀ (ids:List Nat) (k j:Nat),j+k≤ids.length→(ids.drop j).take k=R2 ids k j
 | ids,0,j,_=>by simp [R2]
 | ids,k+1,j,h=>by
  have hj:j<ids.length:=by omega
  rw [List.drop_eq_getElem_cons hj,List.take_succ_cons,R2,Ud ids k (j+1) (by omega)]
  simp [ix,List.getD,hj]
section
variable {P:Program} [GW P] {f:FuncId} {n:Nat} {α:Type} {m:R α} {S:α→AV→O→Prop} {h0:O}
theorem I0 {fn : Func} {c : Code} {args : List AV} {os0 : List Nat} {K : Nat} {xs : List (Option AO)} (N : Nat) (hf : P.funcs[f]? = some fn) (hb : fn.body = some c) (hn : fn.name ≠ "runtime.NumGoroutine") (hnt : fn.ntmps = n) (hl : Nat.ble args.length n = true)
  (hI0 : Ids h0 os0 K) (hx : xs.length = K)
  (hr : ∀ ids, (∀ j, Nat.blt j K = true → ix ids j = ix os0 j) → Ids h0 ids (K + N) → WR P f n false (Q0 S h0) m [.code c] (Ae (Lb 0 args)) [] (hp h0 ids (xs ++ List.replicate N none)) .ret) :
  m ≠ .bad → Bh P f args (hp h0 os0 xs) (Km S h0 m) := by
 intro hb'
 refine G3 hf hb hn hnt (by simpa using hl) ?_
 refine Mc N os0 fun os h1 h2 h3 h4 => ?_
 have hout : ∀ o ∈ os, o ∉ os0 := fun o ho => h4 o ho
 have hI : Ids h0 (os0 ++ os) (K + N) := by
  refine ⟨List.nodup_append.2 ⟨hI0.nodup, h2, fun a ha b hb hq => hout b hb (hq ▸ ha)⟩, fun o ho => ?_, by simp [hI0.len, h1]⟩
  rcases List.mem_append.1 ho with ho | ho
  ·exact hI0.fresh o ho
  ·have := h3 o ho
   rwa [J9 (hout o ho)] at this
 have e : hp h0 (os0 ++ os) (xs ++ List.replicate N none) = hp h0 os0 xs := by
  rw [On (by rw [hI0.len, hx]), Gr fun o ho => hI.fresh o (List.mem_append_right _ ho)]
 have := hr (os0 ++ os) (fun j hj => by
  have hj' : j < os0.length := by rw [hI0.len]; simpa using hj
  simp [ix, List.getD, List.getElem?_append_left hj']) hI hb'
 rw [e] at this
 refine Hd (fun t => ?_) this
 rcases Hj args 0 t with h | ⟨_, h⟩
 ·exact .inl h
 ·exact .inr h
section
variable {ids:List Nat} {xs:List (Option AO)} {K N:Nat} {l:List (Nat×AV)} {k:List Item} {u:AU}
theorem Rx (hI:Ids h0 ids (K+N)){ys:List (Option AO)}(hy:ys.length=K):hp h0 ids (ys++List.replicate N none)=hp h0 (R2 ids K 0) ys:=by
 have e:=Ud ids K 0 (by rw [hI.len]; omega)
 rw [List.drop_zero] at e
 rw [← e]
 have e2:ids=ids.take K++ids.drop K:=(List.take_append_drop K ids).symm
 conv=>lhs; rw [e2]
 rw [On (by rw [List.length_take,hI.len,hy]; omega),Gr fun o ho=>hI.fresh o (List.mem_of_mem_drop ho)]
theorem Pc {fn:Func}{a:α}{vs:List AV}{v:AV}(ys:List (Option AO))(hf:P.funcs[f]? = some fn)(hI:Ids h0 ids (K+N))(hl:xs.length=K+N)(hr:C7 P (hp h0 ids xs) (Ae l) fn.results.toList=some vs)
  (hy:ys.length=K) (hx:HL (hp h0 ids xs) (hp h0 ids (ys++List.replicate N none)) xs (ys++List.replicate N none)) (hz:Fz (hp h0 ids xs) (hp h0 ids (ys++List.replicate N none)) (Ec vs) v) (hS:S a v (hp h0 (R2 ids K 0) ys)) :
  WR P f n false (Q0 S h0) (.ok a) (.code .ret::k) (Ae l) [] (hp h0 ids xs) u:=fun _=>by
 refine K5 (Pu hf hr (hx.hfz hI hl) hz rfl ⟨v,rfl,?_⟩)
 rw [Rx hI hy]; exact hS
theorem Aak {fn:Func}{a:α}{vs:List AV}{v:AV}(ys:List (Option AO))(hf:P.funcs[f]? = some fn)(hI:Ids h0 ids (K+N))(hl:xs.length=K+N)(hr:C7 P (hp h0 ids xs) (Ae l) fn.results.toList=some vs)
  (hy:ys.length=K) (hx:HL (hp h0 ids xs) (hp h0 ids (ys++List.replicate N none)) xs (ys++List.replicate N none)) (hz:Fz (hp h0 ids xs) (hp h0 ids (ys++List.replicate N none)) (Ec vs) v) (hS:S a v (hp h0 (R2 ids K 0) ys)) :
  WR P f n false (Q0 S h0) (.ok a) [] (Ae l) [] (hp h0 ids xs) u:=fun _=>by
 refine O1 (Pu hf hr (hx.hfz hI hl) hz rfl ⟨v,rfl,?_⟩)
 rw [Rx hI hy]; exact hS
theorem Wk {fn:Func}{v:PV}{fr:Nat→AV}(hf:P.funcs[f]? = some fn)(hI:Ids h0 ids (K+N)):WU P f n false (Q0 S h0) (.pan v) (.pan v.av false) fr [] (hp h0 ids xs) u:=fun _=>
 P7 hf (hI.sub xs) (.same _) ⟨rfl,rfl⟩
end
end
section
variable {P:Program} [GW P] {f:FuncId} {n:Nat} {d:FK} {β γ:Type} {Q:Spec β} {m:R β} {ds:List AD} {u:AU} {k:List Item} {l:List (Nat×AV)} {F:γ→R β}
variable {all r:List Oper} {ty:TypeId} {pos:String} {after:Array Edge} {h0:O} {ids:List Nat} {xs:List (Option AO)} {N:Nat}
theorem Aad {ops:List Oper}{fr:Nat→AV}(js:List Nat){xs zs:List (Option AO)}(ys:List (Option AO))(hI:Ids h0 ids N)(hl:xs.length=N)(hk:Kj N js=true)(hz:js.length=zs.length)(e:Kk js zs xs=ys)(hr:WO P f n d Q k all m ops fr ds (hp h0 ids ys) u) :
  WO P f n d Q k all m ops fr ds (hp (hp h0 ids (Mo js xs)) (Pl ids js) zs) u:=by
 subst e
 rw [Tm hI hl hz hk]; exact hr
theorem Ei {α:Type}{dst:Option Tmp}{x:Operand}{as0:List Operand}{ts:Array TypeId}{g:FuncId}{fst cap A:List AV}{gd:Option (Nat×Bool)}{mg:R α}{S:α→AV→O→Prop}{rest:α→R γ}{zs:List (Option AO)}(js:List Nat)(hI:Ids h0 ids N)(hl:xs.length=N)(hk:Kj N js=true)
  (hc:mg≠.bad→Bh P g A (hp (hp h0 ids (Mo js xs)) (Pl ids js) zs) (Km S (hp h0 ids (Mo js xs)) mg)) (hz:js.length=zs.length) (e2:Kk js zs xs=xs)
  (ht:Dd n dst=true) (hw:Cp all (Ae l) ⟨dst,.call ⟨.value x,⟨as0⟩,ts⟩,ty,pos,after,gd⟩=some true) (hx:ev (Ae l) x=.func (.func g) fst cap) (ha:fst++Cz (Ae l) as0++cap=A)
  (hp' : ∀ v,mg=.pan v→WU P f n d Q (.pan v) (.pan v.av false) (Ae l) ds (hp h0 ids (Mo js xs)) u)
  (hk : ∀ a,mg=.ok a → ∀ v h',S a v h'→WO P f n d Q k all ((rest a).bind F) r (Dh (Ae l) dst v) ds h' u) :
  WO P f n d Q k all ((mg.bind rest).bind F) (⟨dst,.call ⟨.value x,⟨as0⟩,ts⟩,ty,pos,after,gd⟩::r) (Ae l) ds (hp h0 ids xs) u:=by
 rw [Tm hI hl hz ‹Kj N js=true›,e2] at hc
 refine P8 (R.bind_assoc _ _ _) (Fs ht hw fun hb K U hK hU=>?_)
 simp only [Dm,hx]
 rw [ha]
 have hmb:mg≠.bad:=fun q=>by rw [q] at hb; exact Q.bad hb
 refine(hc hmb).mono fun r' h' hr=>?_
 cases hm:mg with
 | bad=>exact absurd hm hmb
 | ok a=>
  rw [hm] at hr hb hK
  obtain⟨v,rfl,hS⟩:=hr
  exact hK _ _ _ _ (hk a hm v h' hS)
 | pan v=>
  rw [hm] at hr hb hU
  obtain⟨rfl,rfl⟩:=hr
  exact hU _ _ _ _ _ (hp' v hm hb)
theorem E5 {ops:List Oper}{t:Nat}{v:AV}{h:O}(hr:WO P f n d Q k all m ops (Ae ((t,v)::l)) ds h u):WO P f n d Q k all m ops (Dh (Ae l) (some t) v) ds h u:=by rw [C0]; exact hr
end
end Go.Am
namespace Go.Am
open Go
set_option linter.unusedSimpArgs false
set_option linter.unusedVariables false
set_option linter.unusedSectionVars false
section
variable {P:Program} [GW P] {f:FuncId} {n:Nat} {d:FK} {β γ:Type} {Q:Spec β} {fr:Nat→AV} {ds:List AD} {h:O} {u:AU} {k:List Item} {F:γ→R β} {all:List Oper}
section
variable {r:List Oper} {l:List (Nat×AV)} {m:R β} {ty:TypeId} {pos:String} {after:Array Edge} {pre:List (List Nat)} {plan:C8} {pend:Jq} {i:Nat}
theorem Uz {t j tj:Nat}{want:Bool}{op:Op}(hj:(all[j]?).bind (·.dst)=some tj)(hg:Ae l tj=.bool want)(ht:Nat.blt t n=true)(ho : ∀ (K:AV→List AD→O→AU→Prop) (U:AV→KT),Dm P d U (Ae l) ds h u op K=Ch P (Ae l) h op (fun v h'=>K v ds h' u))
  (hx : ∀ K:AV→O→Prop,(∀ v h',WO P f n d Q k all m r (Ae ((t,v)::l)) ds h' u→K v h')→Ch P (Ae l) h op K) :
  WO P f n d Q k all m (⟨some t,op,ty,pos,after,some (j,want)⟩::r) (Ae l) ds h u:=by
 refine Fs (by simpa [Dd] using ht) (K3 hj hg) fun hb K U hK hU=>?_
 rw [ho]
 exact hx _ fun v h' hw=>hK _ _ _ _ (by rw [C0]; exact hw)
end
end
section
variable {P:Program} [GW P] [GW P]
theorem Ir.mk {g : FuncId} {gf : Func} {gc : Code} (h1 : P.funcs[g]? = some gf) (h2 : gf.body = some gc) (h3 : gf.name ≠ "runtime.NumGoroutine") : Ir P g := ⟨gf, gc, h1, h2, h3⟩
theorem V0 {h:O}{mu:Mu}{w:World}{a:AV}{cargs:Array Value}(k:Gc h mu w [a] cargs.toList) : ∃ c,cargs = #[c]∧RV h mu w a c:=by
 obtain⟨l⟩:=cargs
 match l,k.1 with
 | [c],_=>exact⟨c,rfl,by simpa using k.2 0 (by simp)⟩
theorem Ab2 {h:O}{mu:Mu}{w:World}{t:IntKind}{n:Int}{c:Value}(k:RV h mu w (.int t n) c):c=.int t n:=by cases k; rfl
end
end Go.Am
namespace Go.Am
open Go
set_option linter.unusedSimpArgs false
set_option linter.unusedVariables false
set_option linter.unusedSectionVars false
inductive HM (h h2:O):List (Option AO)→List (Option AO)→Prop
 | nil:HM h h2 [] []
 | keep {x:Option AO} {xs ys:List (Option AO)} (r:HM h h2 xs ys):HM h h2 (x::xs) (x::ys)
 | drop {x:Option AO} {xs ys:List (Option AO)} (r:HM h h2 xs ys):HM h h2 (x::xs) (none::ys)
 | own {α:Type} {e:α→List AV} {L:List α} {v:AV} {g st i:Nat} {y:α} {row:List AV} {xs ys:List (Option AO)} (hr : ∀ x,Bf st (e x)) (hz:LF h h2 row (e y)) (r:HM h h2 xs ys) :
   HM h h2 (Az v g st ((L.map e).set i row)::xs) (Az v g st ((L.set i y).map e)::ys)
theorem HM.get {h h2:O}{xs ys:List (Option AO)}(k:HM h h2 xs ys):xs.length=ys.length ∧ ∀ (j:Nat) (y:AO),ys[j]? = some (some y) → ∃ x,xs[j]? = some (some x)∧AFz h h2 x y:=by
 induction k with
 | nil=>exact⟨rfl,fun j y e=>by simp at e⟩
 | keep r ih=>
  refine⟨by simp [ih.1],fun j y e=>?_⟩
  cases j with
  | zero=>simp only [List.getElem?_cons_zero,Option.some.injEq] at e; subst e; exact⟨y,by simp,.same _⟩
  | succ j=>simpa using ih.2 j y (by simpa using e)
 | drop r ih=>
  refine⟨by simp [ih.1],fun j y e=>?_⟩
  cases j with
  | zero=>simp at e
  | succ j=>simpa using ih.2 j y (by simpa using e)
 | @own α e L v g st i y row xs ys hr hz r ih=>
  refine⟨by simp [ih.1],fun j z hz'=>?_⟩
  cases j with
  | succ j=>simpa using ih.2 j z (by simpa using hz')
  | zero=>
   simp only [List.getElem?_cons_zero,Option.some.injEq] at hz' ⊢
   have key:AFz h h2 (.rows g st ((L.map e).set i row)) (.rows g st ((L.set i y).map e)):=by
    refine .rows g st _ _ (by simp) (fun q hq=>?_) fun a b ha hb=>?_
    ·obtain⟨w,_,rfl⟩:=List.mem_map.1 hq
     exact hr w
    ·rw [List.map_set]
     by_cases hia:i=a
     ·subst hia
      have hlt:i<(L.map e).length:=by simpa using ha
      simp only [cell]
      have e1:((L.map e).set i row).getD i []=row:=by rw [List.getD_eq_getElem?_getD,List.getElem?_set_self hlt]; rfl
      have e2:((L.map e).set i (e y)).getD i []=e y:=by rw [List.getD_eq_getElem?_getD,List.getElem?_set_self hlt]; rfl
      rw [e1,e2]
      exact hz.all.2 b (by rw [hz.all.1,(hr y).1]; exact hb)
     ·simp only [cell]
      have e1:((L.map e).set i row).getD a []=(L.map e).getD a []:=by simp [List.getD,List.getElem?_set_ne hia]
      have e2:((L.map e).set i (e y)).getD a []=(L.map e).getD a []:=by simp [List.getD,List.getElem?_set_ne hia]
      rw [e1,e2]
      exact .same _
   unfold Az at hz' ⊢
   split at hz'
   ·cases hz'
   ·rename_i hv
    cases hz'
    exact⟨_,rfl,key⟩
theorem HM.hfz {h0:O}{ids:List Nat}{N:Nat}{xs ys:List (Option AO)}(hI:Ids h0 ids N)(hl:xs.length=N)(k:HM (hp h0 ids xs) (hp h0 ids ys) xs ys):R3 (hp h0 ids xs) (hp h0 ids ys):=by
 intro o y e
 obtain⟨k1,k2⟩:=k.get
 by_cases ho:o ∈ ids
 ·obtain⟨j,hj,rfl⟩:=List.mem_iff_getElem.1 ho
  have ej:ids[j]=ix ids j:=by simp [ix,List.getD,hj]
  rw [ej] at e ⊢
  have hjl:j<ys.length:=by rw [← k1,hl,← hI.len]; exact hj
  have hy:=hI.at (xs:=ys) (j:=j) (x:=ys[j]) (by rw [← k1,hl]) (List.getElem?_eq_getElem hjl)
  rw [hy] at e
  obtain⟨x,hx,hz⟩:=k2 j y (by rw [List.getElem?_eq_getElem hjl,e])
  exact⟨x,hI.at hl hx,hz⟩
 ·rw [J9 ho] at e
  exact⟨y,by rw [J9 ho]; exact e,.same _⟩
end Go.Am
namespace Go.Am
open Go
set_option linter.unusedSimpArgs false
set_option linter.unusedVariables false
set_option linter.unusedSectionVars false
def rV {α:Type}{n:Nat}(e:α→List AV)(v:Vector α n):List AV:=v.toList.flatMap e
def Cd {α:Type}{n:Nat}(v:Vector α n)(i:Nat)(z:α):α:=v.toList.getD i z
def I9 {α:Type}{n:Nat}(v:Vector α n)(i:Nat)(x:α):Vector α n:=v.setIfInBounds i x
def N9 {α:Type}(n:Nat)(x:α):Vector α n:=Vector.replicate n x
section
variable {α:Type} {n:Nat} {e:α→List AV} {E:α→AV} {v:Vector α n} {i:Nat}
theorem L0 {s:Nat}(he : ∀ x,(e x).length=s) : ∀ l:List α,(l.flatMap e).length=l.length * s
 | []=>by simp
 | a::l=>by simp [he a,L0 he l,Nat.add_mul,Nat.add_comm]
theorem Ab6 {s m:Nat}(he : ∀ x,Bf s (e x))(hm:n * s=m)(v:Vector α n):Bf m (rV e v):=by
 refine⟨by rw [rV,L0 fun x=>(he x).1]; simpa using hm,fun a ha=>?_⟩
 obtain⟨x,_,hx⟩:=List.mem_flatMap.1 ha
 exact(he x).2 a hx
theorem Bf.all {s:Nat}{r:List AV}(h:Bf s r):r.all AV.flat=true:=List.all_eq_true.2 h.2
theorem Qe (he : ∀ x,e x=[E x]):rV e v=v.toList.map E:=by
 rw [rV]
 induction v.toList with
 | nil=>rfl
 | cons a l ih=>simp [he,ih]
theorem Acb (he : ∀ x,e x=[E x])(x:α):rV e (N9 n x)=List.replicate n (E x):=by rw [Qe he]; simp [N9]
theorem W7 (he : ∀ x,e x=[E x])(hi:i<n)(z:α):Eo (rV e v) i 1 false=some (E (Cd v i z)):=by
 have hl:i<v.toList.length:=by simpa using hi
 rw [Qe he]
 simp only [Eo,Bool.false_eq_true,if_false,List.length_map,hl,if_true,Cd]
 congr 1
 simp [List.getD,List.getElem?_eq_getElem hl]
theorem Acp (he : ∀ x,e x=[E x])(hi:i<n)(x:α):Kp (rV e v) i [E x]=rV e (I9 v i x):=by
 have hl:i<v.toList.length:=by simpa using hi
 rw [Qe he,Qe he,Rl _ _ _ (by simp; omega)]
 have:(I9 v i x).toList=v.toList.set i x:=by simp [I9]
 rw [this]
 simp only [D6]
 clear this
 generalize v.toList=l at hl
 clear hi
 induction l generalizing i with
 | nil=>simp at hl
 | cons a l ih=>
  cases i with
  | zero=>simp
  | succ i=>simpa using ih (i:=i) (by simpa using hl)
end
section
variable {P:Program} [GW P] {h:O} {t et:TypeId} {a b:Nat} {z:List AV} {E:TI} {k:IntKind}
theorem Px {m o g i:Nat}(hT:ti P t=some ⟨.arr m et,a,b,z⟩)(hE:ti P et=some E)(h1:E.size=1)(hi:i<m):Cl P h t (.ptr o g 0 0) (.int k (i:Int))=some (.ptr o g 0 i):=by
 simp only [Cl,hT,hE,h1]
 rw [if_pos ⟨Int.natCast_nonneg _,by omega⟩]
 simp
theorem Xm {m o g:Nat}{i:Int}(hT:ti P t=some ⟨.arr m et,a,b,z⟩)(hE:ti P et=some E)(h1:E.size=1)(hi:0≤i∧i<(m:Int)):Cl P h t (.ptr o g 0 0) (.int k i)=some (.ptr o g 0 i.toNat):=by
 simp only [Cl,hT,hE,h1]
 rw [if_pos ⟨hi.1,by omega⟩]
 simp
theorem Sp {m:Nat}{row:List AV}{i:Int}(hT:ti P t=some ⟨.arr m et,a,b,z⟩)(hE:ti P et=some E)(h1:E.size=1)(hi:0≤i∧i<(m:Int)):Cl P h t (.cp row 0) (.int k i)=some (.cp row i.toNat):=by
 simp only [Cl,hT,hE,h1]
 rw [if_pos ⟨hi.1,by omega⟩]
 simp
theorem Ps {i:Int}{m:Nat}(h:0≤i∧i<(m:Int)):i.toNat<m:=by omega
end
section
variable {P:Program} [GW P] {f:FuncId} {n:Nat} {d:FK} {β:Type} {Q:Spec β} {m:R β} {ds:List AD} {u:AU} {k:List Item} {l:List (Nat×AV)} {all r:List Oper} {ty:TypeId} {pos:String} {after:Array Edge} {h0:O} {ids:List Nat} {xs:List (Option AO)} {N:Nat}
theorem Xk {α:Type}{q g st j i:Nat}{e:α→List AV}{E:α→AV}{v:Vector α q}{x:α}{t:TypeId}{T:TI}(he : ∀ x,e x=[E x])(hI:Ids h0 ids N)(hl:xs.length=N)(hjn:Nat.blt j N=true)(hj:xs[j]? = some (some (.rows g st [rV e v])))(hT:ti P t=some T)(hs:T.size=1)(hq:q=st)(hi:i<q)
  (hc:(E x).cells=[E x]) (hok:(E x).ok=true) (hfl:(E x).flat=true) :
  Gd P (hp h0 ids xs) t (.ptr (ix ids j) g 0 i) (E x)=some (hp h0 ids (xs.set j (some (.rows g st [rV e (I9 v i x)])))):=by
 have hrl:(rV e v).length=st:=by rw [rV,L0 (s:=1) fun x=>by rw [he]; rfl]; simpa using hq
 rw [C4 (rr:=0) (row:=rV e v) hI hl hjn hj rfl hT hok (by rw [hc,hs]; rfl) (by rw [hs]; simp; omega) hrl (by rw [hc]; simpa using hfl),hc,Acp he hi]
 rfl
theorem X3 {t:Nat}{e:TypeId}{T:TI}{j st:Nat}{row:List AV}(hI:Ids h0 ids N)(hl:xs.length=N)(hjn:Nat.blt j N=true)(hj:xs[j]? = some none)(ht:Nat.blt t n=true)(hT:ti P e=some T)(hz:T.z=row)(hr:Bf st row)
  (hk : ∀ g,WO P f n d Q k all m r (Ae ((t,.ptr (ix ids j) g 0 0)::l)) ds (hp h0 ids (xs.set j (some (.rows g st [row])))) u) :
  WO P f n d Q k all m (⟨some t,.alloc e,ty,pos,after,none⟩::r) (Ae l) ds (hp h0 ids xs) u:=by
 subst hz
 refine De hI hl hjn hj ht hT hr.all fun g=>?_
 rw [hr.1]; exact hk g
end
theorem K6 {h h2:O} : ∀ l:List AV,LF h h2 l l
 | []=>.nil
 | a::l=>.cons (.same a) (K6 l)
def R.np {α:Type}:R α→R α
 | .pan _=>.bad
 | m=>m
theorem R.np_ne {α:Type}(m:R α)(v:PV):m.np≠.pan v:=by cases m <;> simp [R.np]
@[simp] theorem R.np_ok {α:Type}(a:α):(R.ok a).np=.ok a:=rfl
end Go.Am
namespace Go.Am
open Go
set_option linter.unusedSimpArgs false
set_option linter.unusedVariables false
set_option linter.unusedSectionVars false
section
variable {P:Program} [GW P] {B:Base P} {mu:Mu} {h:O} {w:World}
theorem Sim.pushB (s:Sim B mu h w){o g:Nat}(x:Obj)(ho:h o=none)(hg:mu o g=none) :
  Sim B (Bl mu o g ⟨w.heap.size,0,0,0,false⟩) (upd h o (some (.blk g x))) (w.alloc x)∧Bw h mu w (upd h o (some (.blk g x))) (Bl mu o g ⟨w.heap.size,0,0,0,false⟩) (w.alloc x):=by
 have hmu : ∀ o' g' l,mu o' g'=some l→Bl mu o g ⟨w.heap.size,0,0,0,false⟩ o' g'=some l:=by
  intro o' g' l hl
  unfold Bl
  rw [if_neg]
  ·exact hl
  ·rintro⟨rfl,rfl⟩; rw [hg] at hl; cases hl
 have hinv : ∀ o' g' l,Bl mu o g ⟨w.heap.size,0,0,0,false⟩ o' g'=some l→(o'=o∧g'=g∧l=⟨w.heap.size,0,0,0,false⟩)∨mu o' g'=some l:=by
  intro o' g' l hl
  unfold Bl at hl
  split at hl
  ·rename_i hh; cases hl; exact .inl ⟨hh.1,hh.2,rfl⟩
  ·exact .inr hl
 have hlive : ∀ o' y,upd h o (some (.blk g x)) o'=some y→(o'=o∧y=.blk g x)∨(o'≠o∧h o'=some y):=by
  intro o' y hx
  unfold upd at hx
  split at hx
  ·cases hx; exact .inl ⟨‹_›,rfl⟩
  ·exact .inr ⟨‹_›,hx⟩
 have hlt : ∀ {o' g' l},mu o' g'=some l→l.b<w.heap.size:=fun hl=>(s.muOk _ _ _ hl).2.1
 have hM : ∀ b,b<w.heap.size→¬ A8 h mu b→¬ A8 (upd h o (some (.blk g x))) (Bl mu o g ⟨w.heap.size,0,0,0,false⟩) b:=by
  rintro b hb hn ⟨o',y,l,hx,hl,rfl⟩
  rcases hinv _ _ _ hl with⟨_,_,rfl⟩ | hl'
  ·simp at hb
  ·rcases hlive _ _ hx with⟨rfl,rfl⟩ | ⟨_,hx'⟩
   ·simp only [AO.gen] at hl'; rw [hg] at hl'; cases hl'
   ·exact hn ⟨o',y,l,hx',hl',rfl⟩
 have ext:Bw h mu w (upd h o (some (.blk g x))) (Bl mu o g ⟨w.heap.size,0,0,0,false⟩) (w.alloc x):=
  ⟨rfl,rfl,rfl,by rw [B5]; omega,fun b hb hn=>⟨Be hb,hM b hb hn⟩,hmu⟩
 refine⟨⟨?_,?_,?_,?_,?_,?_,?_,s.globE ext,?_⟩,ext⟩
 ·rw [B5]; exact Nat.le_succ_of_le s.base
 ·intro o' g' l hl
  rcases hinv _ _ _ hl with⟨_,_,rfl⟩ | hl'
  ·exact⟨s.base,by rw [B5]; simp,fun hh=>by simp at hh⟩
  ·obtain⟨h1,h2,h3⟩:=s.muOk _ _ _ hl'
   refine⟨h1,by rw [B5]; omega,fun hcc=>?_⟩
   rw [Be h2]; exact h3 hcc
 ·obtain⟨N,hN⟩:=s.fin
  refine⟨max N (g+1),fun o' g' hle=>?_⟩
  unfold Bl
  rw [if_neg (by omega)]
  exact hN _ _ (by omega)
 ·obtain⟨N,hN⟩:=s.finh
  refine⟨max N (o+1),fun o' hle=>?_⟩
  unfold upd
  rw [if_neg (by omega)]
  exact hN _ (by omega)
 ·intro o' g' st' rs' hx
  rcases hlive _ _ hx with⟨rfl,hx'⟩ | ⟨hne,hx'⟩
  ·cases hx'
  ·obtain⟨l,h1,h2,h3,h4,h5,h6⟩:=s.rows _ _ _ _ hx'
   refine⟨l,hmu _ _ _ h1,h2,h3,h4,h5,fun i j hi hj=>?_⟩
   obtain⟨c,hc1,hc2⟩:=h6 i j hi hj
   refine⟨c,?_,hc2.ext ext⟩
   rw [cell?_of_heap (w:=w) (a:=⟨l.b,l.base+i * st'+j,none⟩) (Be (hlt h1))]; exact hc1
 ·intro o' g' es hx
  rcases hlive _ _ hx with⟨rfl,hx'⟩ | ⟨hne,hx'⟩
  ·cases hx'
  ·obtain⟨l,h1,h2,ens,clock,h3,h4,h5⟩:=s.maps _ _ _ hx'
   exact⟨l,hmu _ _ _ h1,h2,ens,clock,by rw [Be (hlt h1)]; exact h3,h4,fun i hi=>⟨(h5 i hi).1.ext ext,(h5 i hi).2.ext ext⟩⟩
 ·intro o1 o2 x1 x2 l1 l2 hx1 hx2 hl1 hl2 hbb
  have side : ∀ {o1 x1 l1},upd h o (some (.blk g x)) o1=some x1→Bl mu o g ⟨w.heap.size,0,0,0,false⟩ o1 x1.gen=some l1→(o1=o∧l1.b=w.heap.size)∨(o1≠o∧h o1=some x1∧mu o1 x1.gen=some l1):=by
   intro o1 x1 l1 h1 q1
   rcases hlive _ _ h1 with⟨rfl,rfl⟩ | ⟨hne,h1'⟩
   ·rcases hinv _ _ _ q1 with⟨_,_,rfl⟩ | q1'
    ·exact .inl ⟨rfl,rfl⟩
    ·simp only [AO.gen] at q1'; rw [hg] at q1'; cases q1'
   ·rcases hinv _ _ _ q1 with⟨e1,_,_⟩ | q1'
    ·exact absurd e1 hne
    ·exact .inr ⟨hne,h1',q1'⟩
  rcases side hx1 hl1 with⟨e1,b1⟩ | ⟨n1,a1,c1⟩ <;> rcases side hx2 hl2 with⟨e2,b2⟩ | ⟨n2,a2,c2⟩
  ·rw [e1,e2]
  ·have:=hlt c2; omega
  ·have:=hlt c1; omega
  ·exact s.inj _ _ _ _ _ _ a1 a2 c1 c2 hbb
 ·intro o' g' y hx
  rcases hlive _ _ hx with⟨rfl,hx'⟩ | ⟨hne,hx'⟩
  ·cases hx'
   exact⟨⟨w.heap.size,0,0,0,false⟩,by simp [Bl],rfl,E7⟩
  ·obtain⟨l,h1,h2,h3⟩:=s.blks _ _ _ hx'
   exact⟨l,hmu _ _ _ h1,h2,by rw [Be (hlt h1)]; exact h3⟩
theorem Sim.setB (s:Sim B mu h w){o g:Nat}{x x':Obj}{l:Loc}(hx:h o=some (.blk g x))(hl:mu o g=some l)(hnc : ∀ c e f,x≠.cells c e f) :
  Sim B mu (upd h o (some (.blk g x'))) { w with heap:=w.heap.setIfInBounds l.b x' }∧Bw h mu w (upd h o (some (.blk g x'))) mu { w with heap:=w.heap.setIfInBounds l.b x' }:=by
 obtain⟨l0,hl0,hlc,hb0⟩:=s.blks _ _ _ hx
 rw [hl] at hl0; cases hl0
 have hlt0:=(s.muOk _ _ _ hl).2.1
 generalize hw:({ w with heap:=w.heap.setIfInBounds l.b x' }:World)=w'
 have hblk:w'.heap[l.b]? = some x':=by rw [← hw]; simp [hlt0]
 have hother : ∀ b,b≠l.b→w'.heap[b]? = w.heap[b]? := fun b hne=>by rw [← hw]; exact Array.getElem?_setIfInBounds_ne (Ne.symm hne)
 have hsize:w'.heap.size=w.heap.size:=by rw [← hw]; simp
 have hlive : ∀ o1 y,upd h o (some (.blk g x')) o1=some y→(o1=o∧y=.blk g x')∨(o1≠o∧h o1=some y):=by
  intro o1 y h1
  unfold upd at h1
  split at h1
  ·cases h1; exact .inl ⟨‹_›,rfl⟩
  ·exact .inr ⟨‹_›,h1⟩
 have hMl:A8 h mu l.b:=⟨o,_,l,hx,hl,rfl⟩
 have hM : ∀ b,¬ A8 h mu b→¬ A8 (upd h o (some (.blk g x'))) mu b:=by
  rintro b hn ⟨o1,y,l1,h1,h2,rfl⟩
  rcases hlive _ _ h1 with⟨rfl,rfl⟩ | ⟨_,h1'⟩
  ·exact hn ⟨_,_,_,hx,h2,rfl⟩
  ·exact hn ⟨_,_,_,h1',h2,rfl⟩
 have ext:Bw h mu w (upd h o (some (.blk g x'))) mu w':=
  ⟨by rw [← hw],by rw [← hw],by rw [← hw],by rw [hsize]; exact Nat.le_refl _,fun b _ hb=>⟨hother b (fun e=>hb (e ▸ hMl)),hM b hb⟩,fun _ _ _ h=>h⟩
 have hnb : ∀ {o1 y l1},o1≠o→h o1=some y→mu o1 y.gen=some l1→l1.b≠l.b:=fun hne h1 h2 hb=>hne (s.inj _ _ _ _ _ _ h1 hx h2 hl hb)
 refine⟨⟨by rw [hsize]; exact s.base,?_,s.fin,?_,?_,?_,?_,s.globE ext,?_⟩,ext⟩
 ·intro o1 g1 l1 h1
  obtain⟨k1,k2,k3⟩:=s.muOk _ _ _ h1
  refine⟨k1,by rw [hsize]; exact k2,fun hcc=>?_⟩
  have hbb:l1.b≠l.b:=by
   intro hbb
   obtain⟨c1,e1,f1,q1,_⟩:=k3 hcc
   rw [hbb,hb0] at q1
   exact hnc _ _ _ (Option.some.inj q1)
  rw [hother _ hbb]; exact k3 hcc
 ·obtain⟨N,hN⟩:=s.finh
  refine⟨max N (o+1),fun o' hle=>?_⟩
  unfold upd
  rw [if_neg (by omega)]
  exact hN _ (by omega)
 ·intro o1 g1 st1 rs1 h1
  rcases hlive _ _ h1 with⟨rfl,h1'⟩ | ⟨hne,h1'⟩
  ·cases h1'
  ·obtain⟨l1,k1,k2,k3,k4,k5,k6⟩:=s.rows _ _ _ _ h1'
   refine⟨l1,k1,k2,k3,k4,k5,fun i j hi hj=>?_⟩
   obtain⟨c,hc1,hc2⟩:=k6 i j hi hj
   refine⟨c,?_,hc2.ext ext⟩
   rw [cell?_of_heap (w:=w) (w':=w') (a:=⟨l1.b,l1.base+i * st1+j,none⟩) (hother _ (hnb hne h1' k1))]; exact hc1
 ·intro o1 g1 es1 h1
  rcases hlive _ _ h1 with⟨rfl,h1'⟩ | ⟨hne,h1'⟩
  ·cases h1'
  ·obtain⟨l1,k1,k2,ens1,clock1,k3,k4,k5⟩:=s.maps _ _ _ h1'
   exact⟨l1,k1,k2,ens1,clock1,by rw [hother _ (hnb hne h1' k1)]; exact k3,k4,fun i hi=>⟨(k5 i hi).1.ext ext,(k5 i hi).2.ext ext⟩⟩
 ·intro o1 o2 x1 x2 l1 l2 h1 h2 q1 q2 hbb
  rcases hlive _ _ h1 with⟨rfl,rfl⟩ | ⟨n1,a1⟩ <;> rcases hlive _ _ h2 with⟨rfl,rfl⟩ | ⟨n2,a2⟩
  ·rfl
  ·simp only [AO.gen] at q1; rw [hl] at q1; cases q1; exact absurd hbb.symm (hnb n2 a2 q2)
  ·simp only [AO.gen] at q2; rw [hl] at q2; cases q2; exact absurd hbb (hnb n1 a1 q1)
  ·exact s.inj _ _ _ _ _ _ a1 a2 q1 q2 hbb
 ·intro o1 g1 y h1
  rcases hlive _ _ h1 with⟨rfl,h1'⟩ | ⟨hne,h1'⟩
  ·cases h1'
   exact⟨l,hl,hlc,hblk⟩
  ·obtain⟨l1,k1,k2,k3⟩:=s.blks _ _ _ h1'
   exact⟨l1,k1,k2,by rw [hother _ (hnb hne h1' k1)]; exact k3⟩
end
end Go.Am
namespace Go.Am
open Go
set_option linter.unusedSimpArgs false
set_option linter.unusedVariables false
set_option linter.unusedSectionVars false
section
variable {P:Program} [GW P] {f:FuncId} {n:Nat} {d:FK} {fr:Nat→AV} {ds:List AD} {h:O} {u:AU} {Q:QT} {k:List Item}
theorem Rt {l o g:Nat}{r:Loop}(hd:d.ro=some (l,o,g))(ho:h o=some (.blk g (.loop r)))(hs:r.state=.ready)(hr:Cc P f n d k fr ds (upd h o (some (.blk g (.loop { r with state:=.busy })))) u Q) :
  Cc P f n d (.beginRound::k) fr ds h u Q:=by
 intro B mu w a cs p
 obtain⟨loc,hl,rfl⟩:=p.rnd _ _ _ hd
 obtain⟨l0,hl0,_,hb⟩:=p.sim.blks _ _ _ ho
 rw [hl] at hl0; cases hl0
 have hrun:(Instr.beginRound loc.b).run P w=.ok () { w with heap:=w.heap.setIfInBounds loc.b (.loop { r with state:=.busy }) }:=by
  simp [Instr.beginRound,Instr.getLoop,getObj,setObj,Sem.run,Sem.run_bind,hb,hs]
 obtain⟨s',e'⟩:=p.sim.setB (x':=.loop { r with state:=.busy }) ho hl (fun _ _ _ hh=>by cases hh)
 exact .ext e' (.head (stepR_beginRound (by simp [b0,hd]) hrun) (hr B mu _ a cs (p.ext e' s')))
def Ls (fr:Nat→AV):List Nat→List AV→Nat→AV
 | p::ps,v::vs=>Ls (upd fr p v) ps vs
 | _,_=>fr
theorem Ut {mu:Mu}{w:World} : ∀ (ps:List Nat) (args:List AV) (cargs:List Value) (fr:Nat→AV) (tmps:Array Value),tmps.size=n→(∀ p ∈ ps,p<n)→(∀ t,RV h mu w (fr t) (tmps.getD t undef))→Gc h mu w args cargs →
  (∀ t,RV h mu w (Ls fr ps args t) (((ps.zip cargs).foldl (fun tmps x=>tmps.setIfInBounds x.1 x.2) tmps).getD t undef))∧((ps.zip cargs).foldl (fun tmps x=>tmps.setIfInBounds x.1 x.2) tmps).size=n
 | [],_,_,fr,tmps,hs,_,hf,_=>⟨by simpa [Ls] using hf,by simpa using hs⟩
 | p::ps,[],[],fr,tmps,hs,_,hf,_=>⟨by simpa [Ls] using hf,by simpa using hs⟩
 | p::ps,[],c::cs,fr,tmps,hs,_,hf,ha=>by have:=ha.1; simp at this
 | p::ps,v::vs,[],fr,tmps,hs,_,hf,ha=>by have:=ha.1; simp at this
 | p::ps,v::vs,c::cs,fr,tmps,hs,hp,hf,ha=>by
  have hv:RV h mu w v c:=by simpa using ha.2 0 (by simp)
  have hp0:=hp p (List.mem_cons_self ..)
  refine Ut ps vs cs (upd fr p v) (tmps.setIfInBounds p c) (by simpa using hs) (fun q hq=>hp q (List.mem_cons_of_mem _ hq)) (fun t=>?_) ⟨by have:=ha.1; simpa using this,fun i hi=>by simpa using ha.2 (i+1) (by simpa using hi)⟩
  unfold upd
  by_cases ht:t=p
  ·subst ht
   rw [if_pos rfl]
   simp [hs,hp0]; exact hv
  ·rw [if_neg ht]
   have:=hf t
   simpa [Array.getD_eq_getD_getElem?,Array.getElem?_setIfInBounds_ne (Ne.symm ht)] using this
theorem Abz {mu:Mu}{w:World}{M:Nat→Prop}{c:Code}{v:Value}(hc:Yj c≠.tup [])(h:Rv w mu M (Yj c) v):v=jv c:=by
 cases c with
 | ret=>have h:Rv w mu M (.bool true) v:=h; cases h; rfl
 | exit id=>have h:Rv w mu M (.int .u64 id) v:=h; cases h; rfl
 | _=>exact absurd rfl hc
theorem Acl {c:Code}{k:List Item}(hj:Kc c k=true):jv c≠undef:=by
 cases c <;> simp [Kc] at hj <;> simp [jv,undef]
theorem Ab7 {c c':Code}{k:List Item}(hj:Kc c k=true)(hc:Yj c'≠.tup [])(h:jv c'=jv c):c=c':=by
 cases c with
 | ret=>
  cases c' with
  | ret=>rfl
  | exit id=>simp [jv] at h
  | _=>exact absurd rfl hc
 | exit id=>
  cases c' with
  | ret=>simp [jv] at h
  | exit id'=>
   have h:(id':Int)=(id:Int):=by simpa [jv] using h
   rw [Int.ofNat.inj h]
  | _=>exact absurd rfl hc
 | _=>simp [Kc] at hj
theorem Vv {y:YF}{o g:Nat}{r:Loop}{args:List AV}{K E:AV→O→Prop}(ho:h o=some (.blk g (.loop r)))(hrd:r.state=.ready)(hpe:r.pending=none)(hfn:r.fn=f)(hsz:r.tmps.size=n)(hps : ∀ p ∈ r.params.toList,p<n)
  (hy : ∀ {mu:Mu} {w:World} {l:Nat},y.F w mu (A8 h mu) l → ∀ t,RV h mu w (fr t) (r.tmps.getD t undef)) (hla:args.length=r.params.size)
  (hrun : ∀ l,Cc P f n ⟨false,some (l,o,g)⟩ [.code r.assign,.beginRound,.code r.body] (Ls fr r.params.toList args) [] h .ret (fun res h' _=>match res with
   | .ret v=>h' o=some (.blk g (.loop { r with state:=.busy }))∧((v=.tup []∧K (.bool true) (upd h' o (some (.blk g (.loop r))))) ∨ ∃ c,v=Yj c∧Yj c≠.tup []∧K (.bool false) (upd h' o (some (.blk g (.loop { r with state:=.done,pending:=some c })))))
   | .panic v=>E v h')):Ox P y o g args h K E:=by
 intro B mu w loc cargs s hl hyF ha
 obtain⟨l0,hl0,_,hb⟩:=s.blks _ _ _ ho
 rw [hl] at hl0; cases hl0
 have hcs:cargs.size=r.params.size:=by have:=ha.1; simp at this; omega
 refine⟨r,hb,hcs,fun c cs=>?_⟩
 have hz:(r.params.zip cargs).foldl (fun tmps (t,a)=>tmps.setIfInBounds t a) r.tmps=(r.params.toList.zip cargs.toList).foldl (fun tmps x=>tmps.setIfInBounds x.1 x.2) r.tmps:=by
  rw [← Array.foldl_toList,Array.toList_zip]
 obtain⟨q1,q2⟩:=Ut (n:=n) r.params.toList args cargs.toList fr r.tmps hsz hps (hy hyF) ha
 rw [← hz] at q1 q2
 generalize (r.params.zip cargs).foldl (fun tmps (t,a)=>tmps.setIfInBounds t a) r.tmps=tmps at q1 q2
 subst hfn
 obtain⟨e,w',cs',frm,res,h',mu',u',a1,a2,a3,a4,a5,a6,a7,a8,a9⟩:=hrun loc.b ⟨B.n,w.heap.size⟩ mu w { tmps:=tmps,defers:=[] } (c::cs) ⟨q2,q1,rfl,s.rebase rfl,trivial,(fun l' o' g' hh=>by cases hh; exact⟨loc,hl,rfl⟩),s.base,Nat.le_refl _⟩
 have a9':cs'=c::cs:=a9
 subst a9'
 replace a7:Sim B mu' h' w':=a7.rebase rfl
 replace a8:=a8.ext
 have hfr:(b0 r.fn ⟨false,some (loc.b,o,g)⟩).atR { tmps:=tmps,defers:=[] } [.code r.assign,.beginRound,.code r.body]=Frame.round loc.b r.fn tmps r.assign r.body .normal:=by
  simp [Frame.round,Frame.atR,b0,KD]
 rw [hfr] at a2
 cases e with
 | outgrown=>cases res <;> exact a6.elim
 | returned v=>
  cases res with
  | panic _=>exact a6.elim
  | ret v'=>
   obtain⟨g1,g2,g4,g3⟩:=(a5:frm.roundOf=some loc.b∧frm.mode=.run∧frm.defers=[]∧((v=undef∧frm.todo=[]) ∨ ∃ c k,frm.todo=.code c::k∧Kc c k=true∧v=jv c))
   obtain⟨k1,k2⟩:=a1
   have hl':=a8.mu _ _ _ hl
   obtain⟨l1,hl1,_,hb1⟩:=a7.blks _ _ _ k1
   rw [hl'] at hl1; cases hl1
   have hk:frm.kind=.normal:=by rw [a4]; rfl
   rcases k2 with⟨rfl,k2⟩ | ⟨jc,rfl,hjc,k2⟩
   ·
    have hv:v=undef:=by
     have hh:RV h' mu' w' (.tup []) v:=a6
     cases hh with
     | tup vs cs hlen _=>
      have:cs=[]:=by simpa using hlen.symm
      subst this; rfl
    have htodo:frm.todo=[]:=by
     rcases g3 with⟨_,h⟩ | ⟨c',k',_,hj,hv'⟩
     ·exact h
     ·exact absurd (hv'.symm.trans hv) (Acl hj)
    have hend:(Instr.endRound loc.b none).run P w'=.ok (.bool true) { w' with heap:=w'.heap.setIfInBounds loc.b (.loop r) }:=by
     have:({ r with state:=.ready,pending:=none }:Loop)=r:=by
      cases r; simp_all
     simp [Instr.endRound,Instr.getLoop,getObj,setObj,Sem.run,Sem.run_bind,hb1]
     rw [← this]
    obtain⟨s',e'⟩:=a7.setB (x':=.loop r) k1 hl' (fun _ _ _ hh=>by cases hh)
    have hfe:frm=frm.atR { tmps:=frm.tmps,defers:=[] } []:=by
     cases frm; simp_all [Frame.atR]
    refine⟨.returned (.bool true),_,.ret (.bool true),_,mu',k2,s',a8.trans e',.bool true,?_⟩
    refine Steps.trans a2 (.one ?_)
    rw [hfe]
    exact stepR_round_end (b:=frm) g1 hk hend
   ·
    have hv:v=jv jc:=Abz hjc a6
    obtain⟨c',k',htodo,hj,hcc⟩ : ∃ c k,frm.todo=.code c::k∧Kc c k=true∧v=jv c:=by
     rcases g3 with⟨h,_⟩ | h
     ·exfalso
      rw [hv] at h
      cases jc with
      | ret=>simp [jv,undef] at h
      | exit id=>simp [jv,undef] at h
      | _=>exact hjc rfl
     ·exact h
    have hcj:c'=jc:=Ab7 hj hjc (hv.symm.trans hcc)
    subst hcj
    have hend:(Instr.endRound loc.b (some c')).run P w'=.ok (.bool false) { w' with heap:=w'.heap.setIfInBounds loc.b (.loop { r with state:=.done,pending:=some c' }) }:=by
     simp [Instr.endRound,Instr.getLoop,getObj,setObj,Sem.run,Sem.run_bind,hb1]
    obtain⟨s',e'⟩:=a7.setB (x':=.loop { r with state:=.done,pending:=some c' }) k1 hl' (fun _ _ _ hh=>by cases hh)
    have hfe:frm=frm.atR { tmps:=frm.tmps,defers:=[] } (.code c'::k'):=by
     cases frm; simp_all [Frame.atR]
    refine⟨.returned (.bool false),_,.ret (.bool false),_,mu',k2,s',a8.trans e',.bool false,?_⟩
    refine Steps.trans a2 (.one ?_)
    unfold Kc at hj
    split at hj
    ·rw [hfe]
     exact stepR_round_ret (b:=frm) g1 hk hend
    ·rw [hfe]
     exact stepR_round_exit (b:=frm) g1 hk (by simpa using hj) hend
    ·cases hj
 | panicked chain=>
  cases res with
  | ret _=>exact a6.elim
  | panic v=>
   exact⟨.panicked chain,w',.panic v,h',mu',a1,a7,a8,a6,Steps.trans a2 (.one (step_leave_panicked a5))⟩
theorem Sim.take {B:Base P}{mu:Mu}{w:World}{b:Nat}{x:Option (List Deferred)}(s:Sim B mu h w)(hb:w.heap[b]? = some (.deferred x))(hm:¬ A8 h mu b)(hn:B.n≤b){n0:Nat}(hn0:n0≤b) :
  Sim B mu h { w with heap:=w.heap.setIfInBounds b (.deferred none) }∧P3 n0 h mu w h mu { w with heap:=w.heap.setIfInBounds b (.deferred none) }:=by
 have hlt:b<w.heap.size:=by
  rcases Nat.lt_or_ge b w.heap.size with hh | hh
  ·exact hh
  ·rw [Array.getElem?_eq_none hh] at hb; cases hb
 have hne : ∀ k,k≠b→(w.heap.setIfInBounds b (.deferred none))[k]? = w.heap[k]? := fun k hk=>Array.getElem?_setIfInBounds_ne (Ne.symm hk)
 have hself:(w.heap.setIfInBounds b (.deferred none))[b]? = some (.deferred none):=by simp [hlt]
 have ext:P3 n0 h mu w h mu { w with heap:=w.heap.setIfInBounds b (.deferred none) }:=
  ⟨rfl,rfl,rfl,by simp,fun k hk hkm=>⟨by
   by_cases hq:k=b
   ·subst hq; exact .inr ⟨hn0,_,_,hb,hself⟩
   ·exact .inl (hne k hq),hkm⟩,fun _ _ _ h=>h⟩
 have hcell : ∀ a:Addr,({ w with heap:=w.heap.setIfInBounds b (.deferred none) }:World).cell? a=w.cell? a:=fun a=>by
  by_cases hq:a.block=b
  ·unfold World.cell?
   show(match (w.heap.setIfInBounds b (.deferred none))[a.block]? with | some (.cells cells _ _)=>_ | _=>_)=_
   rw [hq,hself,hb]
  ·exact cell?_of_heap (hne _ hq)
 have hnb : ∀ {o x l},h o=some x→mu o x.gen=some l→l.b≠b:=fun h1 h2 hq=>hm ⟨_,_,_,h1,h2,hq⟩
 refine⟨⟨by simpa using s.base,fun o g l hl=>?_,s.fin,s.finh,fun o g st rs hx=>?_,fun o g es hx=>?_,s.inj,GW.step s.glob fun k hk=>hne k (by omega),fun o g x hx=>?_⟩,ext⟩
 ·obtain⟨h1,h2,h3⟩:=s.muOk o g l hl
  refine⟨h1,by simpa using h2,fun hc=>?_⟩
  obtain⟨cells,e,f,k1,k2,k3⟩:=h3 hc
  have:l.b≠b:=fun hq=>by rw [hq,hb] at k1; cases k1
  exact⟨cells,e,f,(hne _ this).trans k1,k2,k3⟩
 ·obtain⟨l,h1,h2,h3,h4,h5,h6⟩:=s.rows o g st rs hx
  refine⟨l,h1,h2,h3,h4,h5,fun i j hi hj=>?_⟩
  obtain⟨c,hc1,hc2⟩:=h6 i j hi hj
  exact⟨c,(hcell _).trans hc1,hc2.extG ext⟩
 ·obtain⟨l,h1,h2,ens,clock,h3,h4,h5⟩:=s.maps o g es hx
  exact⟨l,h1,h2,ens,clock,⟨(hne _ (hnb hx h1)).trans h3.1,h3.2⟩,h4,fun i hi=>⟨(h5 i hi).1.extG ext,(h5 i hi).2.extG ext⟩⟩
 ·obtain⟨l,h1,h2,h3⟩:=s.blks o g x hx
  exact⟨l,h1,h2,(hne _ (hnb hx h1)).trans h3⟩
theorem Gc.extG {n:Nat}{h h':O}{mu mu':Mu}{w w':World}(e:P3 n h mu w h' mu' w'){l:List AV}{cs:List Value}(k:Gc h mu w l cs):Gc h' mu' w' l cs:=⟨k.1,fun i hi=>(k.2 i hi).extG e⟩
theorem G9.extG {n:Nat}{h h':O}{mu mu':Mu}{w w':World}(e:P3 n h mu w h' mu' w'){u:AU}{m:FrameMode}(k:G9 h mu w u m):G9 h' mu' w' u m:=by
 unfold G9 at k ⊢
 split at k
 ·trivial
 ·exact⟨k.1,k.2.1,k.2.2.extG e⟩
 ·exact k.elim
theorem Za {m:AU}(hr:Gk P f n d m fr ds h u Q)(hds:ds.all (fun d => !d.isStar)=true:=by rfl):Gk P f n d m fr (AD.star::ds) h u Q:=by
 intro B mu w a cs todo mode p hm
 have hp:=p.ds
 unfold Ht at hp
 obtain⟨c1,c2,hq,⟨bs,hnd,hbs,hall⟩,hrest⟩:=hp
 have hmr:mode≠.run:=by intro hh; subst hh; cases m <;> simp [G9] at hm
 have keep : ∀ {mu:Mu} {w w':World} {n0 fb:Nat} (e:P3 n0 h mu w h mu w') (ds:List AD) (cs:List Deferred),ds.all (fun d => !d.isStar)=true→Ht h mu w fb ds cs→Ht h mu w' fb ds cs:=by
  intro mu w w' n0 fb e ds
  induction ds with
  | nil=>intro cs _ hh; exact hh
  | cons d ds ih=>
   intro cs hal hh
   simp only [List.all_cons,Bool.and_eq_true,Bool.not_eq_true'] at hal
   unfold Ht at hh ⊢
   rw [hal.1] at hh ⊢
   obtain⟨c,c2,h1,⟨cap,h2,h2'⟩,h3⟩:=hh
   exact⟨c,c2,h1,⟨cap,h2,h2'.extG e⟩,ih c2 hal.2 h3⟩
 have key : ∀ (bs:List Nat) (w:World) (c1:List Deferred) (a:Act),Pre n d fr ds h u B mu w { a with defers:=c2 } cs→G9 h mu w m mode→a.defers=c1++c2→bs.Nodup→c1.map (·.target)=bs.map (fun b=>.collected b) →
   (∀ b ∈ bs,b<w.heap.size∧¬ A8 h mu b∧B.fb≤b∧w.heap[b]? = some (.deferred (some [])))→F9 P f d B h mu w cs Q (lone { (b0 f d).atR a todo with mode:=mode } cs w):=by
  intro bs
  induction bs with
  | nil=>
   intro w c1 a p hm hq _ hbs _
   have:c1=[]:=by simpa using hbs
   subst this
   have ha:({ a with defers:=c2 }:Act)=a:=by cases a; simp at hq; subst hq; rfl
   rw [ha] at p
   exact hr B mu w a cs todo mode p hm
  | cons b bs ih=>
   intro w c1 a p hm hq hnd hbs hall
   match c1,hbs with
   | dc::c1,hbs=>
    simp only [List.map_cons,List.cons.injEq] at hbs
    obtain⟨k1,k2,k3,k4⟩:=hall b (List.mem_cons_self ..)
    obtain⟨s',e'⟩:=p.sim.take k4 k2 (Nat.le_trans p.fb.1 k3) k3
    have hk:(Instr.takeDeferred b).run P w=.ok [] { w with heap:=w.heap.setIfInBounds b (.deferred none) }:=by
     simp [Instr.takeDeferred,getObj,setObj,Sem.run,Sem.run_bind,k4]
    have h1:=step_collected (P:=P) (fr:={ (b0 f d).atR a todo with mode:=mode }) (cs:=cs) (w:=w) hmr (d:=dc) (ds:=c1++c2) (by simpa [Frame.atR] using hq) hbs.1 hk
    have p':Pre n d fr ds h u B mu { w with heap:=w.heap.setIfInBounds b (.deferred none) } { a with defers:=c2 } cs:=
     ⟨p.size,fun t=>(p.fr t).extG e',keep e' ds c2 hds p.ds,s',by
      obtain⟨q,ro⟩:=d
      cases q with
      | false=>trivial
      | true=>obtain⟨c,r,h1,h2⟩:=p.cs; exact⟨c,r,h1,h2.extG e'⟩,p.rnd,p.fb.1,by simpa using p.fb.2⟩
    have hnd':=List.nodup_cons.1 hnd
    exact .extG e' (.head h1 (ih _ c1 { a with defers:=c1++c2 } p' (hm.extG e') rfl hnd'.2 hbs.2 (fun b' hb'=>by
     obtain⟨q1,q2,q3,q4⟩:=hall b' (List.mem_cons_of_mem _ hb')
     refine⟨by simpa using q1,q2,q3,?_⟩
     have hne:b'≠b:=fun hq=>hnd'.1 (hq ▸ hb')
     exact(Array.getElem?_setIfInBounds_ne (Ne.symm hne)).trans q4)))
 exact key bs w c1 a ⟨p.size,p.fr,hrest,p.sim,p.cs,p.rnd,p.fb⟩ hm hq hnd hbs hall
theorem Ti {todo:List Item}(hr:Cc P f n d todo fr (AD.star::ds) h u Q):Cc P f n d todo fr ds h u Q:=fun B mu w a cs p=>
 hr B mu w a cs ⟨p.size,p.fr,⟨[],a.defers,rfl,⟨[],List.nodup_nil,rfl,fun b hb=>by cases hb⟩,p.ds⟩,p.sim,p.cs,p.rnd,p.fb⟩
structure LpOk (f n:Nat)(params:Array Tmp)(assign body:Code)(r:Loop):Prop where
 ready:r.state=.ready
 pend:r.pending=none
 fn:r.fn=f
 size:r.tmps.size=n
 params:r.params=params
 assign:r.assign=assign
 body:r.body=body
theorem S1 {x:Operand}{params:Array Tmp}{assign body:Code}{gf:FuncId}{cap:List AV}(oL:Nat)(hro:d.ro=none)(hx:ev fr x=.func (.func gf) [] cap)(hoL:h oL=none)
  (hgo : ∀ (gL:Nat) (y:YF) (r:Loop),LpOk f n params assign body r→(∀ {mu:Mu} {w:World} {M:Nat→Prop} {l:Nat},y.F w mu M l → ∀ t,Rv w mu M (fr t) (r.tmps.getD t undef)) →
   Bh P gf ([.yld y oL gL]++cap) (upd h oL (some (.blk gL (.loop r)))) (fun res h'=>match res with
    | .ret _ => ∃ r':Loop,h' oL=some (.blk gL (.loop r'))∧r'.state≠.busy∧Cc P f n d ((r'.pending.map Item.code).toList++k) fr (AD.star::ds) (upd h' oL none) u Q
    | .panic v=>Gk P f n d (.pan v false) fr (AD.star::ds) (upd h' oL none) u Q)) :
  Cc P f n d (.code (.rangeFunc x params assign body)::k) fr (AD.star::ds) h u Q:=by
 intro B mu w a cs p
 obtain⟨s1,e1⟩:=p.sim.junk (.deferred (some []))
 obtain⟨gL,hgL⟩:=s1.fresh oL
 generalize hr:({ state:=.ready,pending:=none,fn:=f,tmps:=a.tmps,params:=params,assign:=assign,body:=body,defers:=w.heap.size }:Loop)=r
 obtain⟨s2,e2⟩:=s1.pushB (.loop r) hoL hgL
 have e12:=e1.trans e2
 have hsz1:(w.alloc (.deferred (some []))).heap.size=w.heap.size+1:=B5 ..
 have hent:(Instr.enterLoop (b0 f d).fn a.tmps params assign body (b0 f d).roundOf).run P w=.ok (w.heap.size+1,[{ target:=.collected w.heap.size,args := #[] }]) ((w.alloc (.deferred (some []))).alloc (.loop r)):=by
  have hro':(b0 f d).roundOf=none:=by simp [b0,hro]
  rw [hro',← hr,← hsz1]
  rfl
 have p2:=p.ext e12 s2
 let y:YF:=⟨fun w mu M l => ∀ t,Rv w mu M (fr t) (a.tmps.getD t undef),fun e hh t=>(hh t).extG e⟩
 have hcall:=hgo gL y r (by subst hr; exact⟨rfl,rfl,rfl,p.size,rfl,rfl,rfl⟩) (fun hh t=>by subst hr; exact hh t)
 obtain⟨hb,hcall⟩:=hcall
 have hxv:=F4 p2.fr x
 rw [hx] at hxv
 obtain⟨f2,c2,hfv,hf2,hc2⟩:=My hxv
 have hf2':f2=[]:=by have:=hf2.1; simp at this; exact List.length_eq_zero_iff.1 this.symm
 subst hf2'
 have hinv:((resolve a.eval (rangeCall x (w.heap.size+1)) 0) >>= fun d=>invoke d.target d.args).run P ((w.alloc (.deferred (some []))).alloc (.loop r))=.ok (.enter gf (#[] ++ #[Value.func (.yield (w.heap.size+1)) #[] #[]]++c2.toArray)) ((w.alloc (.deferred (some []))).alloc (.loop r)):=by
  have:=Pg (P:=P) (ρ:=a.eval) (x:=x) (args := #[.const (.func (.yield (w.heap.size+1)) #[] #[])]) (ts := #[]) (ty:=0) (w:=(w.alloc (.deferred (some []))).alloc (.loop r)) hfv hb
  simpa [rangeCall,Act.eval] using this
 have hres : ∃ dd,(resolve a.eval (rangeCall x (w.heap.size+1)) 0).run P ((w.alloc (.deferred (some []))).alloc (.loop r))=.ok dd ((w.alloc (.deferred (some []))).alloc (.loop r))∧(invoke dd.target dd.args).run P ((w.alloc (.deferred (some []))).alloc (.loop r))=.ok (.enter gf (#[] ++ #[Value.func (.yield (w.heap.size+1)) #[] #[]]++c2.toArray)) ((w.alloc (.deferred (some []))).alloc (.loop r)):=by
  rw [Sem.run_bind] at hinv
  have hrr : ∃ dd,(resolve a.eval (rangeCall x (w.heap.size+1)) 0).run P ((w.alloc (.deferred (some []))).alloc (.loop r))=.ok dd ((w.alloc (.deferred (some []))).alloc (.loop r)):=by
   simp [rangeCall,resolve,hfv,Deferred.ofValue]
  obtain⟨dd,hdd⟩:=hrr
  refine⟨dd,hdd,?_⟩
  rw [hdd] at hinv
  simpa using hinv
 obtain⟨dd,hd1,hd2⟩:=hres
 have henter:=stepR_rangeFunc (P:=P) (b:=b0 f d) (a:=a) (k:=k) (cs:=cs) (w:=w) hent hd1 hd2
 have hlL:Bl mu oL gL ⟨(w.alloc (.deferred (some []))).heap.size,0,0,0,false⟩ oL gL=some ⟨(w.alloc (.deferred (some []))).heap.size,0,0,0,false⟩:=by
  simp [Bl]
 have hargs:Gc (upd h oL (some (.blk gL (.loop r)))) (Bl mu oL gL ⟨(w.alloc (.deferred (some []))).heap.size,0,0,0,false⟩) ((w.alloc (.deferred (some []))).alloc (.loop r)) ([.yld y oL gL]++cap) (#[] ++ #[Value.func (.yield (w.heap.size+1)) #[] #[]]++c2.toArray).toList:=by
  simp only [Array.toList_append,List.nil_append]
  refine Gc.append ⟨rfl,fun i hi=>?_⟩ hc2
  have:i=0:=by simpa using hi
  subst this
  have hv:=Rv.yld (w:=(w.alloc (.deferred (some []))).alloc (.loop r)) (M:=A8 (upd h oL (some (.blk gL (.loop r)))) (Bl mu oL gL ⟨(w.alloc (.deferred (some []))).heap.size,0,0,0,false⟩)) y oL gL _ hlL (fun t=>p2.fr t)
  show Rv _ _ _ (.yld y oL gL) (.func (.yield (w.heap.size+1)) #[] #[])
  rw [← hsz1]
  exact hv
 obtain⟨e,w',frm,⟨res,h',mu',hQ,hs',hext,hE⟩,hcomes,hfn,hleave⟩:=hcall B _ _ _ s2 hargs ((b0 f d).atR { a with defers:=[{ target:=.collected w.heap.size,args := #[] }]++a.defers } (.inRangeFunc (w.heap.size+1)::k)::cs)
 have p3:=p2.ext hext hs'
 have hsubL:Dl (upd h' oL none) h':=fun o' y' hh=>by
  unfold upd at hh
  split at hh
  ·cases hh
  ·exact hh
 have hmark:Ht h' mu' w' B.fb (AD.star::ds) ([{ target:=.collected w.heap.size,args := #[] }]++a.defers):=by
  have hp0:=p.ds
  unfold Ht at hp0 ⊢
  obtain⟨c1,c2,hq,⟨bs,k1,k2,k3⟩,hrest⟩:=hp0
  have E:=e12.trans hext
  have hD:(w.alloc (.deferred (some []))).heap[w.heap.size]? = some (.deferred (some [])):=E7
  have hD2:((w.alloc (.deferred (some []))).alloc (.loop r)).heap[w.heap.size]? = some (.deferred (some [])):=by rw [Be (by rw [hsz1]; omega)]; exact hD
  have hDm:¬ A8 (upd h oL (some (.blk gL (.loop r)))) (Bl mu oL gL ⟨(w.alloc (.deferred (some []))).heap.size,0,0,0,false⟩) w.heap.size:=by
   rintro⟨o1,x1,l1,q1,q2,q3⟩
   by_cases ho1:o1=oL
   ·subst ho1
    rw [Ue] at q1; cases q1
    rw [show(AO.blk gL (.loop r)).gen=gL from rfl,hlL] at q2; cases q2
    simp only at q3; rw [hsz1] at q3; omega
   ·rw [P9 _ _ _ ho1] at q1
    have:mu o1 x1.gen=some l1:=by
     have:Bl mu oL gL ⟨(w.alloc (.deferred (some []))).heap.size,0,0,0,false⟩ o1 x1.gen=mu o1 x1.gen:=by simp [Bl,ho1]
     rw [← this]; exact q2
    have:=(p.sim.muOk _ _ _ this).2.1
    omega
  have hsz2:((w.alloc (.deferred (some []))).alloc (.loop r)).heap.size=w.heap.size+2:=by rw [B5,hsz1]
  obtain⟨j1,j2⟩:=hext.same w.heap.size (by rw [hsz2]; omega) hDm
  refine⟨{ target:=.collected w.heap.size,args := #[] }::c1,c2,by rw [hq]; rfl,⟨w.heap.size::bs,List.nodup_cons.2 ⟨fun hm=>by have:=(k3 _ hm).1; omega,k1⟩,by simp [k2],fun b hb=>?_⟩,hrest.ext E⟩
  rcases List.mem_cons.1 hb with rfl | hb
  ·exact⟨Nat.lt_of_lt_of_le (by rw [hsz2]; omega) hext.size,j2,p.fb.2,j1.trans hD2⟩
  ·obtain⟨q1,q2,q3,q4⟩:=k3 b hb
   obtain⟨s1,s2⟩:=E.same b q1 q2
   exact⟨Nat.lt_of_lt_of_le q1 E.size,s2,q3,s1.trans q4⟩
 have p4:Pre n d fr (AD.star::ds) h' u B mu' w' { a with defers:=[{ target:=.collected w.heap.size,args := #[] }]++a.defers } cs:=⟨p3.size,p3.fr,hmark,hs',p3.cs,p3.rnd,p3.fb⟩
 cases e with
 | outgrown=>cases res <;> exact hE.elim
 | returned c=>
  cases res with
  | panic v=>exact hE.elim
  | ret v=>
   obtain⟨r',hr',hst,hrun⟩:=hQ
   have hfin:=step_leave_returned hleave (c:=(b0 f d).atR { a with defers:=[{ target:=.collected w.heap.size,args := #[] }]++a.defers } (.inRangeFunc (w.heap.size+1)::k)) (cs:=cs)
   rw [finish_atR_inRangeFunc] at hfin
   have hlL':=hext.mu _ _ _ hlL
   rw [hsz1] at hlL'
   obtain⟨l1,hl1,_,hb1⟩:=hs'.blks _ _ _ hr'
   rw [hlL'] at hl1; cases hl1
   have hend:(Instr.endLoop (w.heap.size+1)).run P w'=.ok r'.pending { w' with heap:=w'.heap.setIfInBounds (w.heap.size+1) (.loop { r' with state:=.exhausted }) }:=by
    have hnb:(r'.state==.busy)=false:=by
     cases hq:r'.state with
     | busy=>exact absurd hq hst
     | ready=>rfl
     | done=>rfl
     | exhausted=>rfl
    simp [Instr.endLoop,Instr.getLoop,getObj,setObj,Sem.run,Sem.run_bind,hb1,hnb,hst]
   obtain⟨s5,e5⟩:=hs'.setB (x':=.loop { r' with state:=.exhausted }) hr' hlL' (fun _ _ _ hh=>by cases hh)
   have hsub5:Dl (upd h' oL none) (upd h' oL (some (.blk gL (.loop { r' with state:=.exhausted })))):=fun o' y' hh=>by
    unfold upd at hh ⊢
    split at hh
    ·cases hh
    ·rename_i hq; rw [if_neg hq]; exact hh
   have p5:=(p4.ext e5 s5).ext (Bw.sub hsub5) (s5.sub hsub5)
   exact .ext (e12.trans hext) (.ext e5 (.ext (Bw.sub hsub5) (.steps (.head henter (Steps.trans hcomes (.head hfin (.one (stepR_endRangeFunc hend))))) (hrun B mu' _ _ cs p5))))
 | panicked chain=>
  cases res with
  | ret v=>exact hE.elim
  | panic v=>
   have hfin:=step_leave_panicked hleave (c:=(b0 f d).atR { a with defers:=[{ target:=.collected w.heap.size,args := #[] }]++a.defers } (.inRangeFunc (w.heap.size+1)::k)) (cs:=cs)
   obtain⟨x',hx',x1,x2,x3⟩:=hE.panic_inv
   cases hx'
   rw [Frame.raise_atR] at hfin
   have p5:=p4.ext (Bw.sub hsubL) (hs'.sub hsubL)
   have hu5:G9 (upd h' oL none) mu' w' (.pan v false) (.panicking [x']):=⟨x1,x2,x3.ext (Bw.sub hsubL)⟩
   exact .ext (e12.trans hext) (.ext (Bw.sub hsubL) (.steps (.head henter (Steps.trans hcomes (.one hfin))) (hQ B mu' w' _ cs _ _ p5 hu5)))
end
end Go.Am
namespace Go.Am
open Go
set_option linter.unusedSimpArgs false
set_option linter.unusedVariables false
set_option linter.unusedSectionVars false
def Rk {σ:Type}(St:σ→O→Prop)(m:R σ):AR→O→Prop:=fun r h'=>match m with
 | .ok s=>(∃ v,r=.ret v)∧St s h'
 | .pan v=>r=.panic v.av ∧ ∃ s,St s h'
 | .bad=>False
def Wz {σ:Type}(St:σ→O→Prop):Spec σ:=⟨fun m=>m≠.bad,fun h=>h rfl,fun m r h' _=>Rk St m r h'⟩
section
variable {P:Program} [GW P] {f:FuncId} {n:Nat} {d:FK} {σ β γ:Type} {Q:Spec β} {ds:List AD} {h:O} {u:AU} {k:List Item} {l:List (Nat×AV)} {St:σ→O→Prop} {m:R σ}
theorem Tt {fn : Func} {c : Code} {args : List AV} (hf : P.funcs[f]? = some fn) (hb : fn.body = some c) (hn : fn.name ≠ "runtime.NumGoroutine") (hnt : fn.ntmps = n) (hl : Nat.ble args.length n = true)
  (hr : WR P f n false (Wz St) m [.code c] (Ae (Lb 0 args)) [] h .ret) (hm : m ≠ .bad) : Bh P f args h (Rk St m) := by
 refine G3 hf hb hn hnt (by simpa using hl) ?_
 refine Hd (fun t => ?_) (hr hm)
 rcases Hj args 0 t with h | ⟨_, h⟩
 ·exact .inl h
 ·exact .inr h
theorem Wm {fn:Func}{s:σ}{vs:List AV}{fr:Nat→AV}(hf:P.funcs[f]? = some fn)(hr:C7 P h fr fn.results.toList=some vs)(hs:St s h):WR P f n false (Wz St) (.ok s) [] fr [] h u:=fun _=>
 O1 (Wd hf hr ⟨⟨_,rfl⟩,hs⟩)
theorem Wh {fn:Func}{v:PV}{fr:Nat→AV}{s:σ}(hf:P.funcs[f]? = some fn)(hs:St s h):WU P f n false (Wz St) (.pan v) (.pan v.av false) fr [] h u:=fun _=>
 Aaf hf ⟨rfl,s,hs⟩
def Yh (P:Program)[GW P](y:YF)(o g:Nat)(A:List AV)(St:σ→O→Prop)(b:σ→R σ):Prop:=
 ∀ s h,St s h → ∀ s',b s=.ok s'→Ox P y o g A h (fun v h'=>v=.bool true∧St s' h') (fun _ _=>False)
section
variable {all r:List Oper} {ty:TypeId} {pos:String} {after:Array Edge} {F:γ→R β}
theorem Zp {t:Nat}{x:Operand}{as0:List Operand}{ts:Array TypeId}{y:YF}{o g:Nat}{A:List AV}{b:σ→R σ}{s:σ}{rest:σ→R γ}(ht:Nat.blt t n=true)(hx:ev (Ae l) x=.yld y o g)(ha:Cz (Ae l) as0=A)(hs:St s h)
  (hy:Yh P y o g A St b) (hnp : ∀ v,b s≠.pan v) (hk : ∀ s',b s=.ok s' → ∀ h',St s' h'→WO P f n d Q k all ((rest s').bind F) r (Ae ((t,.bool true)::l)) ds h' u) :
  WO P f n d Q k all (((b s).bind rest).bind F) (⟨some t,.call ⟨.value x,⟨as0⟩,ts⟩,ty,pos,after,none⟩::r) (Ae l) ds h u:=by
 refine P8 (R.bind_assoc _ _ _) (Fs (by simpa [Dd] using ht) rfl fun hb K U hK hU=>?_)
 simp only [Dm,hx]
 rw [ha]
 cases hm:b s with
 | bad=>rw [hm] at hb; exact absurd hb Q.bad
 | pan v=>exact absurd hm (hnp v)
 | ok s'=>
  have hk':=hk s' hm
  rw [hm] at hK
  refine Jx (fun v h' hv=>?_) (fun _ _ hf=>hf.elim) (hy s h hs s' hm)
  obtain⟨rfl,hs'⟩:=hv
  exact hK _ _ _ _ (by rw [C0]; exact hk' h' hs')
theorem Zx {i:Nat}{pre:List (List Nat)}{plan:C8}{pend:Jq}{t:Nat}{x:Operand}{as0:List Operand}{ts:Array TypeId}{y:YF}{o g:Nat}{A:List AV}{b:σ→R σ}{s:σ}{rest:σ→R γ}(ho:all[i]? = some ⟨some t,.call ⟨.value x,⟨as0⟩,ts⟩,ty,pos,after,none⟩)(ht:Nat.blt t n=true)(hx:ev (Ae l) x=.yld y o g)(ha:Cz (Ae l) as0=A)(hs:St s h)
  (hy:Yh P y o g A St b) (hnp : ∀ v,b s≠.pan v) (hpd : ∀ h',D2 P all pre i h' pend) (hk : ∀ s',b s=.ok s' → ∀ h',St s' h'→WP P f n d Q k all pre ((rest s').bind F) plan pend (Ae ((t,.bool true)::l)) ds h' u) :
  WP P f n d Q k all pre (((b s).bind rest).bind F) ((true,i)::plan) pend (Ae l) ds h u:=by
 refine Wx (R.bind_assoc _ _ _) (Qw ho (by simpa [Dd] using ht) rfl fun hb K U hK hU=>?_)
 simp only [Dm,hx]
 rw [ha]
 cases hm:b s with
 | bad=>rw [hm] at hb; exact absurd hb Q.bad
 | pan v=>exact absurd hm (hnp v)
 | ok s'=>
  have hk':=hk s' hm
  rw [hm] at hK
  refine Jx (fun v h' hv=>?_) (fun _ _ hf=>hf.elim) (hy s h hs s' hm)
  obtain⟨rfl,hs'⟩:=hv
  exact hK _ _ _ _ (hpd h') (by rw [C0]; exact hk' h' hs')
end
def Uy {σ:Type}(o g:Nat)(r:Loop)(St:σ→O→Prop):Spec σ:=⟨fun m => ∃ s:σ,m=.ok s,(fun h=>by obtain⟨s,h⟩:=h; cases h),fun m a h' _ => ∃ s:σ,m=.ok s∧a=.ret (.tup [])∧h' o=some (.blk g (.loop { r with state:=.busy }))∧St s (upd h' o (some (.blk g (.loop r))))⟩
theorem Abg {lo:Nat×Nat×Nat}{o g:Nat}{r:Loop}{s:σ}{fr:Nat→AV}(ho:h o=some (.blk g (.loop { r with state:=.busy })))(hs:St s (upd h o (some (.blk g (.loop r))))) :
  WR P f n ⟨false,some lo⟩ (Uy o g r St) (.ok s) [] fr [] h u:=by
 intro hV B mu w a cs p
 have hd:a.defers=[]:=p.ds
 refine⟨.returned undef,w,cs,_,.ret (.tup []),h,mu,u,⟨s,rfl,rfl,ho,hs⟩,Steps.refl P _,rfl,rfl,?_,.und,p.sim,(Ext.refl _ _ _).g,.refl p.cs⟩
 exact⟨rfl,rfl,hd,.inl ⟨rfl,rfl⟩⟩
theorem Ok {y:YF}{o g:Nat}{r:Loop}{params:Array Tmp}{assign body:Code}{A:List AV}{b:σ→R σ}(hlp:LpOk f n params assign body r)(hps:params.toList.all (fun p=>Nat.blt p n)=true)(hla:A.length=params.size)
  (hy : ∀ {mu:Mu} {w:World} {M:Nat→Prop} {lo:Nat},y.F w mu M lo → ∀ t,Rv w mu M (Ae l t) (r.tmps.getD t undef)) (hat : ∀ s h,St s h→h o=some (.blk g (.loop r)))
  (hr : ∀ (lo:Nat) (s:σ) (h:O),St s h→WR P f n ⟨false,some (lo,o,g)⟩ (Uy o g r St) (b s) [.code assign,.beginRound,.code body] (Ls (Ae l) params.toList A) [] h .ret):Yh P y o g A St b:=by
 intro s h hs s' hb
 obtain⟨h1,h2,h3,h4,rfl,rfl,rfl⟩:=hlp
 refine Vv (f:=f) (n:=n) (fr:=Ae l) (hat s h hs) h1 h2 h3 h4 (fun p hp=>by have:=List.all_eq_true.1 hps p hp; simpa using this) (fun hF t=>hy hF t) hla fun lo=>?_
 refine Zf (hr lo s h hs ⟨s',hb⟩) fun a h' u' hq=>?_
 obtain⟨s2,e,rfl,hb1,hs2⟩:=hq
 rw [hb] at e; cases e
 exact⟨hb1,.inl ⟨rfl,rfl,hs2⟩⟩
theorem Lp : ∀ (ps:List Nat) (A:List AV) (l:List (Nat×AV)),Ls (Ae l) ps A=Ae ((ps.zip A).reverse++l)
 | [],_,l=>rfl
 | p::ps,[],l=>rfl
 | p::ps,v::A,l=>by
  rw [Ls]
  have:upd (Ae l) p v=Ae ((p,v)::l):=C0 l p v
  rw [this,Lp ps A]
  simp
section
variable {h0:O} {ids:List Nat} {xs:List (Option AO)} {N:Nat} {F:γ→R β}
theorem W9 {lo:Nat×Nat×Nat}{o g:Nat}{r:Loop}{m:R σ}{todo:List Item}{fr:Nat→AV}(hr:WR P f n ⟨false,some lo⟩ (Uy o g r St) m todo fr ds h u):WR P f n ⟨false,some lo⟩ (Uy o g r St) m.np todo fr ds h u:=by
 intro hV
 cases m with
 | ok s=>exact hr hV
 | pan v=>obtain⟨s,h⟩:=hV; cases h
 | bad=>obtain⟨s,h⟩:=hV; cases h
theorem Tk {Q:Spec β}{m:R β}{todo:List Item}{fr:Nat→AV}(l':List (Nat×AV))(e:fr=Ae l')(hr:WR P f n d Q m todo (Ae l') ds h u):WR P f n d Q m todo fr ds h u:=e ▸ hr
theorem Js {Q:Spec β}{m:R β}{lr jL g:Nat}{r:Loop}{fr:Nat→AV}(hI:Ids h0 ids N)(hl:xs.length=N)(hj:Nat.blt jL N=true)(hx:xs[jL]? = some (some (.blk g (.loop r))))(hs:r.state=.ready)
  (hr:WR P f n ⟨false,some (lr,ix ids jL,g)⟩ Q m k fr ds (hp h0 ids (xs.set jL (some (.blk g (.loop { r with state:=.busy }))))) u):WR P f n ⟨false,some (lr,ix ids jL,g)⟩ Q m (.beginRound::k) fr ds (hp h0 ids xs) u:=fun hb=>
 Rt rfl (hI.at hl hx) hs (by rw [hI.set hl hj]; exact hr hb)
theorem Po {lo:Nat×Nat×Nat}{jL g:Nat}{r:Loop}{s:σ}{fr:Nat→AV}(hI:Ids h0 ids N)(hl:xs.length=N)(hj:Nat.blt jL N=true)(hx:xs[jL]? = some (some (.blk g (.loop { r with state:=.busy }))))(hs:St s (hp h0 ids (xs.set jL (some (.blk g (.loop r)))))) :
  WR P f n ⟨false,some lo⟩ (Uy (ix ids jL) g r St) (.ok s) [] fr [] (hp h0 ids xs) u:=Abg (hI.at hl hx) (by rw [hI.set hl hj]; exact hs)
theorem T8 {Q:Spec β}{m:R β}{todo:List Item}{fr:Nat→AV}{j:Nat}{y:Option AO}(ys:List (Option AO))(hI:Ids h0 ids N)(hl:xs.length=N)(hj:Nat.blt j N=true)(e:xs.set j y=ys)(hr:WR P f n d Q m todo fr ds (hp h0 ids ys) u):WR P f n d Q m todo fr ds (upd (hp h0 ids xs) (ix ids j) y) u:=by
 rw [hI.set hl hj,e]; exact hr
theorem Tz {Q:Spec β}{m:R β}{a:AU}{fr:Nat→AV}{j:Nat}{y:Option AO}(ys:List (Option AO))(hI:Ids h0 ids N)(hl:xs.length=N)(hj:Nat.blt j N=true)(e:xs.set j y=ys)(hr:WU P f n d Q m a fr ds (hp h0 ids ys) u):WU P f n d Q m a fr ds (upd (hp h0 ids xs) (ix ids j) y) u:=by
 rw [hI.set hl hj,e]; exact hr
end
theorem Ui {x:Operand}{params:Array Tmp}{assign body:Code}{gf:FuncId}{cap:List AV}{m:R σ}{rest:σ→R β}{h0:O}{ids:List Nat}{xs:List (Option AO)}{N:Nat}(jL:Nat)(St:Nat→Loop→σ→O→Prop)
  (hro:d.ro=none) (hx:ev (Ae l) x=.func (.func gf) [] cap) (hI:Ids h0 ids N) (hl:xs.length=N) (hjL:Nat.blt jL N=true) (hxL:xs[jL]? = some none)
  (hgo : ∀ (gL:Nat) (y:YF) (r:Loop),LpOk f n params assign body r→(∀ {mu:Mu} {w:World} {M:Nat→Prop} {lo:Nat},y.F w mu M lo → ∀ t,Rv w mu M (Ae l t) (r.tmps.getD t undef)) →
   (m≠.bad→Bh P gf ([.yld y (ix ids jL) gL]++cap) (hp h0 ids (xs.set jL (some (.blk gL (.loop r))))) (Rk (St gL r) m)) ∧
   (∀ s h',St gL r s h'→h' (ix ids jL)=some (.blk gL (.loop r))) ∧
   (∀ s,m=.ok s → ∀ h',St gL r s h'→WR P f n d Q (rest s) k (Ae l) (AD.star::ds) (upd h' (ix ids jL) none) u) ∧
   (∀ v,m=.pan v → ∀ s h',St gL r s h'→WU P f n d Q (.pan v) (.pan v.av false) (Ae l) (AD.star::ds) (upd h' (ix ids jL) none) u)) :
  WR P f n d Q (m.bind rest) (.code (.rangeFunc x params assign body)::k) (Ae l) (AD.star::ds) (hp h0 ids xs) u:=by
 intro hV
 refine S1 (ix ids jL) hro hx (hI.at hl hxL) fun gL y r hlp hyF=>?_
 obtain⟨c1,c2,c3,c4⟩:=hgo gL y r hlp hyF
 rw [hI.set hl hjL]
 have hmb:m≠.bad:=fun e=>by rw [e] at hV; exact Q.bad hV
 refine(c1 hmb).mono fun res h' hq=>?_
 cases hm:m with
 | bad=>exact absurd hm hmb
 | ok s=>
  rw [hm] at hq
  obtain⟨⟨v,rfl⟩,hs⟩:=hq
  refine⟨r,c2 s h' hs,by rw [hlp.ready]; exact fun e=>(by cases e),?_⟩
  rw [hlp.pend]
  refine c3 s hm h' hs ?_
  rw [hm] at hV; exact hV
 | pan v=>
  rw [hm] at hq
  obtain⟨rfl,s,hs⟩:=hq
  refine c4 v hm s h' hs ?_
  rw [hm] at hV; exact hV
theorem Lc {x:Operand}{params:Array Tmp}{assign body:Code}{gf:FuncId}{cap:List AV}{m:R σ}{rest:σ→R γ}{F:γ→R β}{h0:O}{ids:List Nat}{xs:List (Option AO)}{N:Nat}(jL:Nat)(St:Nat→Loop→σ→O→Prop)
  (hro:d.ro=none) (hx:ev (Ae l) x=.func (.func gf) [] cap) (hI:Ids h0 ids N) (hl:xs.length=N) (hjL:Nat.blt jL N=true) (hxL:xs[jL]? = some none)
  (hgo : ∀ (gL:Nat) (y:YF) (r:Loop),LpOk f n params assign body r→(∀ {mu:Mu} {w:World} {M:Nat→Prop} {lo:Nat},y.F w mu M lo → ∀ t,Rv w mu M (Ae l t) (r.tmps.getD t undef)) →
   (m≠.bad→Bh P gf ([.yld y (ix ids jL) gL]++cap) (hp h0 ids (xs.set jL (some (.blk gL (.loop r))))) (Rk (St gL r) m)) ∧
   (∀ s h',St gL r s h'→h' (ix ids jL)=some (.blk gL (.loop r))) ∧
   (∀ s,m=.ok s → ∀ h',St gL r s h'→WR P f n d Q ((rest s).bind F) k (Ae l) (AD.star::ds) (upd h' (ix ids jL) none) u) ∧
   (∀ v,m=.pan v → ∀ s h',St gL r s h'→WU P f n d Q (.pan v) (.pan v.av false) (Ae l) (AD.star::ds) (upd h' (ix ids jL) none) u)) :
  WR P f n d Q ((m.bind rest).bind F) (.code (.rangeFunc x params assign body)::k) (Ae l) (AD.star::ds) (hp h0 ids xs) u:=by
 rw [R.bind_assoc]
 exact Ui jL St hro hx hI hl hjL hxL hgo
theorem Iz {m:R β}{a:AU}{fr:Nat→AV}(hr:WU P f n d Q m a fr ds h u)(hds:ds.all (fun d => !d.isStar)=true:=by rfl):WU P f n d Q m a fr (AD.star::ds) h u:=fun hV=>Za (hr hV) hds
theorem Aau {m:R β}{fr:Nat→AV}(hr:WR P f n d Q m k fr (AD.star::ds) h u):WR P f n d Q m k fr ds h u:=fun hV=>Ti (hr hV)
theorem Rh {m:R β}{fr:Nat→AV}(hr:WU P f n d Q m .ret fr ds h u)(hro:d.ro=none:=by rfl):WR P f n d Q m (.code .ret::k) fr ds h u:=fun hV=>K5 (hr hV) hro
theorem V7 {all:List Oper}{ops:List Oper}{m:R β}{fr:Nat→AV}(hr:WO P f n d Q k all m ops fr (AD.star::ds) h u):WO P f n d Q k all m ops fr ds h u:=fun hV i hi=>Ti (hr hV i hi)
end
section
variable {P:Program} [GW P] {f:FuncId} {n:Nat} {α:Type} {u:AU} {l:List (Nat×AV)} {h0:O} {ids:List Nat} {xs:List (Option AO)} {N K:Nat} {e:α→AV}
theorem Wl {hdl:PV→R α}{fn:Func}{a:α}{vs A:List AV}{g:FuncId}(hf:P.funcs[f]? = some fn)(hI:Ids h0 ids N)(hc:Dz P g A .ret (hp h0 ids xs) (Jj (fun _:Unit=>hp h0 ids xs) .ret (.ok ())))
  (hr:C7 P (hp h0 ids xs) (Ae l) fn.results.toList=some vs) (hz:Fz (hp h0 ids xs) h0 (Ec vs) (e a)) (hnc:AD.isStar ⟨g,A⟩=false:=by rfl) :
  WU P f n false (H6 e h0 hdl) (.ok a) .ret (Ae l) [⟨g,A⟩] (hp h0 ids xs) .ret:=fun _=>
 Kb (hc.mono fun r h' u hq=>by
  obtain⟨_,_,rfl,rfl,rfl⟩:=hq
  exact Hq hf hr (hI.sub xs) hz rfl ⟨rfl,rfl⟩) hnc
theorem Aam {S:α→AV→O→Prop}{fn:Func}{a:α}{vs:List AV}{v:AV}(ys:List (Option AO))(hf:P.funcs[f]? = some fn)(hI:Ids h0 ids (K+N))(hl:xs.length=K+N)(hr:C7 P (hp h0 ids xs) (Ae l) fn.results.toList=some vs)
  (hy:ys.length=K) (hx:HL (hp h0 ids xs) (hp h0 ids (ys++List.replicate N none)) xs (ys++List.replicate N none)) (hz:Fz (hp h0 ids xs) (hp h0 ids (ys++List.replicate N none)) (Ec vs) v) (hS:S a v (hp h0 (R2 ids K 0) ys)) :
  WU P f n false (Q0 S h0) (.ok a) .ret (Ae l) [] (hp h0 ids xs) u:=fun _=>by
 refine Pu hf hr (hx.hfz hI hl) hz rfl ⟨v,rfl,?_⟩
 rw [Rx hI hy]; exact hS
end
end Go.Am
namespace Go.Am
end Go.Am
namespace Go.Am
open Go Go.Maps Go.RowKit
set_option linter.unusedSimpArgs false
set_option linter.unusedVariables false
set_option linter.unusedSectionVars false
def Hw {V:Type}(m:List (Int×V)):R (List Int):=
 if m.length * 8≤140737488355328∧(m.all fun p=>(Lit.int .i64 p.1).wf)=true then .ok ((m.map (·.1)).mergeSort fun x y=>decide (x≤y)) else .bad
section
variable {P:Program} [GW P] [GW P]
theorem W1 {kf it t:Nat}{h:O}{o g:Nat}(hb:Ir P kf)
  (hk : ∀ mb W,Calls P kf #[.map mb] W fun e w'=>e=.returned (.func (.func it) #[] #[.pointer (some ⟨W.heap.size,0,none⟩)])∧w'=W.alloc (.cells #[.map mb] t)) :
  Bh P kf [.map o g] h (fun r h'=>r=.ret (.func (.func it) [] [.cp0 [.map o g]])∧h'=h):=by
 refine⟨hb,fun B mu w cargs s ha=>?_⟩
 obtain⟨c,rfl,hc⟩:=V0 ha
 cases hc with
 | map _ _ l hl hlc=>
  refine(hk (some l.b) w).mono ?_
  rintro e w' ⟨rfl,rfl⟩
  obtain⟨s',e'⟩:=s.junk (.cells #[.map (some l.b)] t)
  refine⟨_,h,mu,⟨rfl,rfl⟩,s',e',?_⟩
  refine .func (.func it) [] _ [] [.pointer (some ⟨w.heap.size,0,none⟩)] rfl rfl (fun i hi=>by simp at hi) (fun i hi=>?_)
  have:i=0:=by simpa using hi
  subst this
  refine .cp0 [.map o g] w.heap.size (fun _=>.map (some l.b)) (fun j hj=>?_) (fun j hj=>?_) (fun hm=>?_) (by rw [B5]; omega)
  ·have:j=0:=by simpa using hj
   subst this
   unfold World.cell?
   rw [E7]; rfl
  ·have:j=0:=by simpa using hj
   subst this
   exact .map o g l hl hlc
  ·have:=A8.lt s hm; omega
theorem Yu {k:TypeId}(hk:P.underlying k=some (.int .i64)){V:Type}{m:List (Int×V)}{eV:V→AV}{h:O}{mu:Mu}{w:World}{ens:Array MapEntry}(hl:(mE (fun x:Int=>AV.int .i64 x) eV m).length=ens.size)
  (hr : ∀ i,i<(mE (fun x:Int=>AV.int .i64 x) eV m).length→RV h mu w ((mE (fun x:Int=>AV.int .i64 x) eV m).getD i (.und,.und)).1 (ens.getD i default).key) :
  ens.toList.map (·.key)=m.map fun p=>Value.int .i64 p.1:=by
 have hlen:ens.size=m.length:=by rw [← hl]; simp [mE]
 apply List.ext_getElem?
 intro i
 simp only [List.getElem?_map,Array.getElem?_toList]
 by_cases hi:i<m.length
 ·have h1:=hr i (by simpa [mE] using hi)
  have e1:((mE (fun x:Int=>AV.int .i64 x) eV m).getD i (.und,.und)).1=.int .i64 (m[i]).1:=by simp [mE,List.getD,hi]
  rw [e1] at h1
  have h2:=Ab2 h1
  have e2:ens.getD i default=ens[i]'(by omega):=by simp [Array.getD_eq_getD_getElem?,show i<ens.size by omega]
  rw [e2] at h2
  rw [Array.getElem?_eq_getElem (by omega),List.getElem?_eq_getElem hi]
  simp [h2]
 ·rw [Array.getElem?_eq_none (by omega),List.getElem?_eq_none (by omega)]; rfl
theorem Uu {sf it kt:Nat}{V:Type}{m:List (Int×V)}{eV:V→AV}{h0:O}{o g:Nat}(hI0:Ids h0 [o] 1)(hb:Ir P sf)(hkt:P.underlying kt=some (.int .i64))
  (hs : ∀ (Bm b nn:Nat) (D0:DataW Unit) (R:Value→Option (DataW Unit×List MemPlace)) (w:World),Bm<w.heap.size→w.cell? ⟨Bm,0,none⟩=some (.map (some b))→w.ownsMap P kt R b nn D0→Maps.size D0≤maxLen→Maps.size D0 * 8≤140737488355328 →
   Calls P sf #[.func (.func it) #[] #[.pointer (some ⟨Bm,0,none⟩)]] w fun e w' => ∃ (v:Value) (ss:List Int),e=.returned v∧ss.Perm (intKeys D0) ∧
    w'.ownsRow w.heap.size kt 1 v ss.length ((ss.mergeSort (fun x y=>decide (x≤y))).map encZ)∧(v=.slice none 0 0↔ss=[])∧Below w.heap.size w w') :
  Hw m≠.bad→Bh P sf [.func (.func it) [] [.cp0 [.map o g]]] (hp h0 [o] [some (.mp g (mE (fun x:Int=>AV.int .i64 x) eV m))])
   (Km (fun a v h'=>v=.sl 1 (List.map (rI .i64) a)∧h'=hp h0 [o] [some (.mp g (mE (fun x:Int=>AV.int .i64 x) eV m))]) h0 (Hw m)):=by
 intro hne
 unfold Hw at hne ⊢
 split at hne
 case isFalse=>exact absurd rfl hne
 rename_i hc
 rw [if_pos hc]
 obtain⟨hlim,hwf⟩:=hc
 refine⟨hb,fun B mu w cargs s ha=>?_⟩
 obtain⟨c,rfl,hc⟩:=V0 ha
 obtain⟨f2,c2,rfl,hf2,hc2⟩:=My hc
 have hf2':f2=[]:=List.length_eq_zero_iff.1 (by have:=hf2.1; simpa using this.symm)
 subst hf2'
 obtain⟨c3,rfl⟩ : ∃ c3,c2=[c3]:=by
  match c2,hc2.1 with
  | [c3],_=>exact⟨c3,rfl⟩
 have hp3:=hc2.2 0 (by simp)
 simp only [List.getD_cons_zero] at hp3
 cases hp3 with
 | cp0 _ Bm vs h1 h2 h3 h4=>
  have q1:=h1 0 (by simp)
  have q2:=h2 0 (by simp)
  simp only [List.getD_cons_zero] at q2
  obtain⟨l,k1,k2,ens,clock,k3,k4,k5⟩:=s.maps o g _ (hI0.at (xs:=[some _]) rfl (j:=0) rfl)
  generalize vs 0=c0 at q1 q2
  ·cases q2 with
   | map _ _ l' hl' _=>
    rw [k1] at hl'; cases hl'
    have hkeys:=Yu (P:=P) hkt k4 (fun i hi=>(k5 i hi).1)
    have hlen:ens.size=m.length:=by rw [← k4]; simp [mE]
    have hkeyOf : ∀ x ∈ ens.toList,∃ p ∈ m,x.key=.int .i64 p.1∧keyOf P kt x.key=some (.int .i64 p.1):=by
     intro x hx
     have:x.key ∈ ens.toList.map (·.key):=List.mem_map.2 ⟨x,hx,rfl⟩
     rw [hkeys] at this
     obtain⟨p,hp',hpe⟩:=List.mem_map.1 this
     refine⟨p,hp',hpe.symm,?_⟩
     rw [← hpe]
     have:=List.all_eq_true.1 hwf p hp'
     simp [keyOf,hkt,mapKey,this]
    let R:Value→Option (DataW Unit×List MemPlace):=fun _=>some (.nil,[])
    have hrd : ∀ x ∈ ens.toList,∃ p ∈ m,x.key=.int .i64 p.1∧WideElems.rd P kt R x=some (.int .i64 p.1,.nil):=by
     intro x hx
     obtain⟨p,h1',h2',h3'⟩:=hkeyOf x hx
     exact⟨p,h1',h2',by simp [WideElems.rd,h3',R]⟩
    have hown:w.ownsMap P kt R l.b ens.size (.map ((ens.toList.map (WideElems.rg P kt R)).foldr DataW.insert [])):=
     ⟨ens,clock,k3.1,⟨Nat.le_trans (show ens.size≤140737488355328 by omega) (by decide),k3.2,fun x hx=>by obtain⟨p,_,_,h⟩:=hrd x hx; exact⟨_,h⟩⟩,Nat.le_refl _,rfl⟩
    have hsz:Maps.size (.map ((ens.toList.map (WideElems.rg P kt R)).foldr DataW.insert []))=m.length:=by
     simp [Maps.size,length_sorted,hlen]
    refine(hs Bm l.b _ _ R w h4 q1 hown (by rw [hsz]; exact Nat.le_trans (show m.length≤140737488355328 by omega) (by decide)) (by rw [hsz]; exact hlim)).mono ?_
    rintro e w' ⟨v,ss,rfl,hperm,hrow,hnil,hbel⟩
    have hki:(intKeys (DataW.map ((ens.toList.map (WideElems.rg P kt R)).foldr DataW.insert []))).Perm (m.map (·.1)):=by
     have e1:(ens.toList.map (WideElems.rg P kt R)).map (fun p=>intOf p.1)=m.map (·.1):=by
      have e2:(ens.toList.map (WideElems.rg P kt R)).map (fun p=>intOf p.1)=(ens.toList.map (·.key)).map fun c=>(match c with | .int _ n=>n | _=>0):=by
       rw [List.map_map,List.map_map]
       refine List.map_congr_left fun x hx=>?_
       obtain⟨p,_,hk',hr'⟩:=hrd x hx
       simp [WideElems.rg_of hr',intOf,hk']
      rw [e2,hkeys,List.map_map]
      rfl
     rw [← e1]
     exact(WideShapes.sorted_perm _).map _
    have hsort:ss.mergeSort (fun x y=>decide (x≤y))=(m.map (·.1)).mergeSort fun x y=>decide (x≤y):=mergeSort_of_perm_i (hperm.trans hki)
    obtain⟨s',e'⟩:=Below.ext s hbel
    have hssl:ss.length=m.length:=by rw [(hperm.trans hki).length_eq,List.length_map]
    refine⟨.ret (.sl 1 (List.map (rI .i64) ((m.map (·.1)).mergeSort fun x y=>decide (x≤y)))),_,mu,⟨_,rfl,rfl,rfl⟩,s',e',?_⟩
    show Rv w' mu _ _ v
    rw [← hsort]
    have hlen2:(ss.mergeSort fun x y=>decide (x≤y)).length=ss.length:=List.length_mergeSort _
    rcases hrow.2 with⟨rfl,hz⟩ | ⟨gb,cap,cur,rfl,hbase,hgb,r1,r2,r3,r4⟩
    ·have hss:ss=[]:=List.eq_nil_of_length_eq_zero hz
     subst hss
     simpa using Rv.sl0 (w:=w') (mu:=mu) (M:=A8 _ mu) 1 none 0
    ·have hcell : ∀ i (hi:i<ss.length),w'.cell? ⟨gb,0+i * 1+0,none⟩=some (encZ ((ss.mergeSort fun x y=>decide (x≤y))[i]'(by omega))):=by
      intro i hi
      unfold World.cell?
      rw [hgb]
      have h5:(cur.toList.take (ss.length * 1))[i]? = some (encZ ((ss.mergeSort fun x y=>decide (x≤y))[i]'(by omega))):=by
       rw [r4,List.getElem?_map,List.getElem?_eq_getElem (by omega)]; rfl
      rw [List.getElem?_take,if_pos (by omega)] at h5
      simpa using h5
     have:=Rv.sl (w:=w') (mu:=mu) (M:=A8 (hp h0 [o] [some (.mp g (mE (fun x:Int=>AV.int .i64 x) eV m))]) mu) 1 (List.map (rI .i64) (ss.mergeSort fun x y=>decide (x≤y))) gb 0 cap (fun i _=>encZ ((ss.mergeSort fun x y=>decide (x≤y)).getD i 0)) (by simp [hlen2]; exact r1) (by simp [hlen2,Do]; omega)
      (fun i j hi hj=>by
       have hj0:j=0:=by omega
       have hi':i<ss.length:=by simpa [hlen2] using hi
       subst hj0
       rw [hcell i hi']
       simp [List.getD,List.getElem?_eq_getElem (show i<(ss.mergeSort fun x y=>decide (x≤y)).length by omega)])
      (fun i j hi hj=>by
       have hj0:j=0:=by omega
       have hi':i<(ss.mergeSort fun x y=>decide (x≤y)).length:=by simpa using hi
       subst hj0
       have e3:cell (List.map (rI .i64) (ss.mergeSort fun x y=>decide (x≤y))) i 0=.int .i64 ((ss.mergeSort fun x y=>decide (x≤y)).getD i 0):=by simp [cell,rI,List.getD,List.getElem?_eq_getElem hi']
       rw [e3]; exact .int _ _)
      (fun r hr=>by obtain⟨x,_,rfl⟩:=List.mem_map.1 hr; exact Og x)
      (fun hm=>by have:=A8.lt s hm; omega)
      (by
       rcases Nat.lt_or_ge gb w'.heap.size with hh | hh
       ·exact hh
       ·rw [Array.getElem?_eq_none hh] at hgb; cases hgb)
     simpa [hlen2] using this
end
end Go.Am
namespace Go.Am
open Go
set_option linter.unusedVariables false
set_option linter.unusedSectionVars false
end Go.Am
namespace Go.Am
open Go
set_option linter.unusedVariables false
set_option linter.unusedSectionVars false
structure FMapAt (w:World)(m g:Nat)(es:List (Ib×AV)):Prop where
 ex : ∃ (b:Nat) (ens:Array MapEntry) (clock:Nat) (es2:List (Ib×AV)),w.cell? ⟨g,0,none⟩=some (.map (some b))∧b<m∧w.heap[b]? = some (.map ens clock)∧es2.Perm es∧es2.length=ens.size ∧
  ∀ i,i<es2.length→(ens.getD i default).key=.string ⟨(es2.getD i ([],.und)).1.toArray⟩ ∧ ∃ k,(es2.getD i ([],.und)).2=.func (.func k) [] []∧(ens.getD i default).val=.func (.func k) #[] #[]
 nd:(es.map (·.1)).Nodup
theorem FMapAt.keep {w w':World}{m g:Nat}{es:List (Ib×AV)}(k:FMapAt w m g es)(hg:g<m)(e : ∀ b,b<m→w'.heap[b]? = w.heap[b]?):FMapAt w' m g es:=by
 obtain⟨⟨b,ens,clock,es2,h1,h2,h3,h4,h5,h6⟩,hnd⟩:=k
 exact⟨⟨b,ens,clock,es2,by rw [cell?_of_heap (w:=w) (a:=⟨g,0,none⟩) (e g hg)]; exact h1,h2,by rw [e b h2]; exact h3,h4,h5,h6⟩,hnd⟩
theorem FMapAt.rv {w:World}{m g:Nat}{es:List (Ib×AV)}(k:FMapAt w m g es)(hm:m≤w.heap.size){mu:Mu}{M:Nat→Prop}(hM : ∀ b,M b→m≤b) : ∃ x,w.cell? ⟨g,0,none⟩=some x∧Rv w mu M (.mapc es) x:=by
 obtain⟨⟨b,ens,clock,es2,h1,h2,h3,h4,h5,h6⟩,hnd⟩:=k
 refine⟨_,h1,.mapc es es2 h4 hnd b ens clock h3 h5 (fun i hi=>(h6 i hi).1) (fun i hi=>?_) (fun hb=>by have:=hM b hb; omega) (by omega)⟩
 obtain⟨_,k,e1,e2⟩:=h6 i hi
 rw [e1,e2]
 exact .func _ [] [] [] [] rfl rfl (fun i hi=>by simp at hi) (fun i hi=>by simp at hi)
open Go.ChangeShapes Go.WideShapes Go.WideElems
end Go.Am
namespace Go.Am
open Go
set_option linter.unusedVariables false
set_option linter.unusedSectionVars false
set_option linter.unusedSimpArgs false
abbrev AV.q (ids:List Nat)(j g:Nat):AV:=.ptr (ix ids j) g 0 0
abbrev AV.I (n:Int):AV:=.int .i64 n
abbrev Sc.I (n:Int):Sc:=.int .i64 n
section
variable (P:Program) [GW P]
def V9:Op→Bool
 | .move _=>true
 | .assign _=>true
 | .pick _ _ _=>true
 | .build _ _=>true
 | .nilCheck _=>true
 | .binOp _ _ _ _ _=>true
 | .unOp _ _ _=>true
 | .makeInterface _ _=>true
 | .makeFunc _ _ _=>true
 | .fieldAddr _ _ _=>true
 | .field _ _ _=>true
 | .typeAssert _ _ _ _=>true
 | .extract _ _=>true
 | _=>false
def Zj (xs:List (Option AO))(fr:Nat→AV)(j:Nat)(op:Op):Option (AV×Option (Nat×Nat×Nat)):=
 match op with
 | .load t a=>match ev fr a with
  | .ptr o g r c=>match ti P t,xs[j]? with
   | some T,some (some (.rows g' st rs))=>match rs[r]? with
    | some row=>(Eo row c T.size T.k.agg).map fun v=>(v,some (o,g,g'))
    | none=>none
   | _,_=>none
  | .cp row c=>match ti P t with
   | some T=>(Eo row c T.size T.k.agg).map fun v=>(v,none)
   | none=>none
  | _=>none
 | op=>if V9 op then(By P fr hE op).map fun v=>(v,none) else none
def Gs (n:Nat)(all:List Oper)(xs:List (Option AO)):List Oper→List Nat→List (Nat×AV)→Option (List (Nat×AV)×List (Nat×Nat)×List (Nat×Nat))
 | [],_,l=>some (l,[],[])
 | o::ops,hs,l=>if Dd n o.dst then match Cp all (Ae l) o,o.dst with
   | some true,some t=>match Zj P xs (Ae l) (hs.headD 0) o.op with
    | some (v,none)=>Gs n all xs ops hs ((t,v)::l)
    | some (v,some (ob,g,g'))=>(Gs n all xs ops hs.tail ((t,v)::l)).map fun r=>(r.1,(ob,g)::r.2.1,(hs.headD 0,g')::r.2.2)
    | none=>none
   | some false,some t=>Gs n all xs ops hs ((t,.und)::l)
   | some false,none=>Gs n all xs ops hs l
   | _,_=>none
  else none
def V1 (ops:List Oper)(ks:List Nat)(l:List (Nat×AV)):Bool:=ops.all fun o=>match o.dst with
 | none=>true
 | some t=>ks.contains t || !(l.any fun p=>Nat.beq t p.1)
end
section
variable {P:Program} [GW P] {f:FuncId} {n:Nat} {d:FK} {β γ:Type} {Q:Spec β} {m:R β} {ds:List AD} {h:O} {u:AU} {k:List Item} {l:List (Nat×AV)} {F:γ→R β}
variable {all:List Oper} {h0:O} {ids:List Nat} {xs:List (Option AO)} {N:Nat}
theorem Qm {fr:Nat→AV}{j:Nat}{op:Op}{v:AV}{q:Option (Nat×Nat×Nat)}(hI:Ids h0 ids N)(hl:xs.length=N)(hx:Zj P xs fr j op=some (v,q))(hq : ∀ o g g',q=some (o,g,g')→o=ix ids j∧g=g'):By P fr (hp h0 ids xs) op=some v:=by
 unfold Zj at hx
 split at hx
 ·rename_i t a
  show Ha P _ t (ev fr a)=_
  split at hx
  ·rename_i o g r c ha
   rw [ha]
   split at hx
   ·rename_i T g' st rs hT hj
    split at hx
    ·rename_i row hr
     simp only [Option.map_eq_some_iff,Prod.mk.injEq] at hx
     obtain⟨v',h1,rfl,rfl⟩:=hx
     obtain⟨rfl,rfl⟩:=hq _ _ _ rfl
     exact C6 hI hl hj hr hT h1
    ·cases hx
   ·cases hx
  ·rename_i row c ha
   rw [ha]
   split at hx
   ·rename_i T hT
    simp only [Option.map_eq_some_iff,Prod.mk.injEq] at hx
    obtain⟨v',h1,rfl,rfl⟩:=hx
    exact Dv hT h1
   ·cases hx
  ·cases hx
 split at hx
 ·rename_i hp
  simp only [Option.map_eq_some_iff,Prod.mk.injEq] at hx
  obtain⟨v',h1,rfl,rfl⟩:=hx
  revert h1
  cases op <;> first
   | exact id
   | (simp [V9] at hp)
 ·cases hx
theorem Oy {rest:List Oper} : ∀ {ops:List Oper} {hs:List Nat} {l l':List (Nat×AV)} {A B:List (Nat×Nat)},Gs P n all xs ops hs l=some (l',A,B)→A=B.map (fun q=>(ix ids q.1,q.2))→Ids h0 ids N→xs.length=N →
  WO P f n d Q k all m rest (Ae l') ds (hp h0 ids xs) u→WO P f n d Q k all m (ops++rest) (Ae l) ds (hp h0 ids xs) u
 | [],hs,l,l',A,B,hx,hA,hI,hl,hk=>by
  simp only [Gs,Option.some.injEq,Prod.mk.injEq] at hx
  obtain⟨rfl,rfl,rfl⟩:=hx
  exact hk
 | o::ops,hs,l,l',A,B,hx,hA,hI,hl,hk=>by
  unfold Gs at hx
  split at hx
  ·rename_i hd
   split at hx
   ·rename_i t hw ht
    rw [ht] at hd
    have step : ∀ {v:AV},By P (Ae l) (hp h0 ids xs) o.op=some v→WO P f n d Q k all m (ops++rest) (Ae ((t,v)::l)) ds (hp h0 ids xs) u→WO P f n d Q k all m (o::ops++rest) (Ae l) ds (hp h0 ids xs) u:=by
     intro v hv hk'
     refine Fs (by rw [ht]; exact hd) hw fun hb K U hK hU=>Rz (t:=ds) hv (hK _ _ _ _ ?_)
     rw [ht,C0]; exact hk'
    split at hx
    ·rename_i v hr
     exact step (Qm hI hl hr (fun _ _ _ h=>by cases h)) (Oy hx hA hI hl hk)
    ·rename_i v ob g g' hr
     simp only [Option.map_eq_some_iff,Prod.mk.injEq] at hx
     obtain⟨⟨l1,A1,B1⟩,hx,rfl,rfl,rfl⟩:=hx
     simp only [List.map_cons,List.cons.injEq,Prod.mk.injEq] at hA
     exact step (Qm hI hl hr (fun o2 g2 g2' h=>by cases h; exact hA.1)) (Oy hx hA.2 hI hl hk)
    ·cases hx
   ·rename_i t hw ht
    rw [ht] at hd
    exact R0 (by rw [ht]; exact hd) hw (by rw [ht,C0]; exact Oy hx hA hI hl hk)
   ·rename_i hw ht
    exact R0 (by rw [ht]; rfl) hw (by rw [ht]; exact Oy hx hA hI hl hk)
   ·cases hx
  ·cases hx
theorem Mv {ops:List Oper}{ks:List Nat}{news:List (Nat×AV)} : ∀ {hs:List Nat} {l l':List (Nat×AV)} {A B:List (Nat×Nat)} {ops:List Oper},Gs P n all xs ops hs l=some (l',A,B) → ∀ t,(∀ o ∈ ops,o.dst≠some t)→Ae l' t=Ae l t
 | hs,l,l',A,B,[],hx,t,ho=>by
  simp only [Gs,Option.some.injEq,Prod.mk.injEq] at hx
  obtain⟨rfl,rfl,rfl⟩:=hx
  rfl
 | hs,l,l',A,B,o::ops,hx,t,ho=>by
  have ho' : ∀ o ∈ ops,o.dst≠some t:=fun q hq=>ho q (List.mem_cons_of_mem _ hq)
  have hne : ∀ {t':Nat} {v:AV},o.dst=some t'→Ae ((t',v)::l) t=Ae l t:=by
   intro t' v h
   have:t≠t':=fun e=>ho o (List.mem_cons_self ..) (e ▸ h)
   simp only [Ae]
   have:Nat.beq t t'=false:=by
    cases hq:Nat.beq t t' with
    | false=>rfl
    | true=>exact absurd (Nat.eq_of_beq_eq_true hq) this
   rw [this]; rfl
  unfold Gs at hx
  split at hx
  ·split at hx
   ·rename_i t' hw ht
    split at hx
    ·rw [Mv (ks:=ks) (news:=news) (ops:=ops) hx t ho',hne ht]
    ·simp only [Option.map_eq_some_iff,Prod.mk.injEq] at hx
     obtain⟨⟨l1,A1,B1⟩,hx,rfl,rfl,rfl⟩:=hx
     rw [Mv (ks:=ks) (news:=news) (ops:=ops) hx t ho',hne ht]
    ·cases hx
   ·rename_i t' hw ht
    rw [Mv (ks:=ks) (news:=news) (ops:=ops) hx t ho',hne ht]
   ·exact Mv (ks:=ks) (news:=news) (ops:=ops) hx t ho'
   ·cases hx
  ·cases hx
theorem Ads {ops:List Oper}(K:Nat)(hs:List Nat)(news:List (Nat×AV))(hI:Ids h0 ids N)(hl:xs.length=N)
  (hc:(Gs P n all xs (ops.take K) hs l).map (fun r=>(news.map (fun p=>Ae r.1 p.1),r.2.1,V1 (ops.take K) (news.map (·.1)) l))=some (news.map (·.2),((Gs P n all xs (ops.take K) hs l).elim [] fun r=>r.2.2.map fun q=>(ix ids q.1,q.2)),true))
  (hk:WO P f n d Q k all m (ops.drop K) (Ae (news++l)) ds (hp h0 ids xs) u):WO P f n d Q k all m ops (Ae l) ds (hp h0 ids xs) u:=by
 cases hr:Gs P n all xs (ops.take K) hs l with
 | none=>rw [hr] at hc; cases hc
 | some r=>
  obtain⟨l',A,B⟩:=r
  rw [hr] at hc
  simp only [Option.map_some,Option.elim_some,Option.some.injEq,Prod.mk.injEq] at hc
  obtain⟨h1,h2,h3⟩:=hc
  have:=Oy (rest:=ops.drop K) hr h2 hI hl (f:=f) (d:=d) (Q:=Q) (k:=k) (m:=m) (ds:=ds) (u:=u) (fun hb i hi=>Hd (fun t=>?_) (hk hb i hi))
  ·rwa [List.take_append_drop] at this
  ·
   have key : ∀ (ns:List (Nat×AV)),ns.map (fun p=>Ae l' p.1)=ns.map (·.2)→(∀ s,s ∈ ns.map (·.1)→s ∈ news.map (·.1))→(∀ s,s ∈ news.map (·.1)→s=t→s ∈ ns.map (·.1))→Ae (ns++l) t=.any∨Ae (ns++l) t=Ae l' t:=by
    intro ns
    induction ns with
    | nil=>
     intro _ _ hsub
     simp only [List.nil_append]
     by_cases hin:l.any (fun p=>Nat.beq t p.1)=true
     ·right
      symm
      refine Mv (ks:=[]) (news:=[]) (ops:=ops.take K) hr t fun o ho hd=>?_
      have:=List.all_eq_true.1 h3 o ho
      rw [hd] at this
      simp only [Bool.or_eq_true,Bool.not_eq_true',List.contains_iff_mem] at this
      rcases this with hc | hc
      ·exact absurd (hsub t hc rfl) (by simp)
      ·rw [hc] at hin; cases hin
     ·left
      have : ∀ l:List (Nat×AV),l.any (fun p=>Nat.beq t p.1)≠true→Ae l t=.any:=by
       intro l
       induction l with
       | nil=>intro _; rfl
       | cons p l ih=>
        intro hne
        simp only [List.any_cons] at hne
        simp only [Ae]
        have h1:Nat.beq t p.1=false:=by cases hq:Nat.beq t p.1 with | false=>rfl | true=>exact absurd (by rw [hq]; rfl) hne
        rw [h1]
        exact ih (fun h=>hne (by rw [h,h1]; rfl))
      exact this l hin
    | cons p ns ih=>
     intro hv h4 h5
     simp only [List.map_cons,List.cons.injEq] at hv
     simp only [List.cons_append,Ae]
     cases hq:Nat.beq t p.1 with
     | true=>
      right
      have:t=p.1:=Nat.eq_of_beq_eq_true hq
      subst this
      exact hv.1.symm
     | false=>
      refine ih hv.2 (fun s hs=>h4 s (by simp [hs])) (fun s hs e=>?_)
      rcases List.mem_cons.1 (h5 s hs e) with h | h
      ·subst e; rw [h] at hq; simp at hq
      ·exact h
   exact key news h1 (fun s hs=>hs) (fun s hs _=>hs)
theorem Ad {ops:List Oper}(K:Nat)(hs:List Nat)(news:List (Nat×AV))(hk:WO P f n d Q k all m (ops.drop K) (Ae (news++l)) ds (hp h0 ids xs) u)(hI:Ids h0 ids N:=by assumption)(hl:xs.length=N:=by rfl)
  (hc:(Gs P n all xs (ops.take K) hs l).map (fun r=>(news.map (fun p=>Ae r.1 p.1),r.2.1,V1 (ops.take K) (news.map (·.1)) l))=some (news.map (·.2),((Gs P n all xs (ops.take K) hs l).elim [] fun r=>r.2.2.map fun q=>(ix ids q.1,q.2)),true):=by kernel_rfl):WO P f n d Q k all m ops (Ae l) ds (hp h0 ids xs) u:=Ads K hs news hI hl hc hk
theorem A0 {ops:List Oper}{t:Nat}{b b':Bool}(hb:b=b')(ht:Ae l t=.bool b)(hk:WO P f n d Q k all m ops (Ae ((t,.bool b')::l)) ds h u):WO P f n d Q k all m ops (Ae l) ds h u:=by
 subst hb
 refine fun hV i hi=>Hd (fun s=>?_) (hk hV i hi)
 right
 simp only [Ae]
 cases hq:Nat.beq s t with
 | true=>rw [Nat.eq_of_beq_eq_true hq,ht]; rfl
 | false=>rfl
theorem H4 {ops:List Oper}{fr:Nat→AV}(js:List Nat){zs ys:List (Option AO)}(hI:Ids h0 ids N)(hl:xs.length=N)(hk:Kj N js=true)(hz:js.length=zs.length)(hr:WO P f n d Q k all m ops fr ds (hp h0 ids ys) u)
  (e:Kk js zs xs=ys:=by first | (simp only [List.set_cons_zero,List.set_cons_succ,List.cons_append,List.nil_append,List.replicate_succ,List.replicate_zero,Kk,Kp,Ky,AV.cells,AV.I,AV.q]; rfl) | rfl):WO P f n d Q k all m ops fr ds (hp (hp h0 ids (Mo js xs)) (Pl ids js) zs) u:=Aad js ys hI hl hk hz e hr
theorem Cw {todo:List Item}{l':List (Nat×AV)}(hr:WR P f n d Q m todo (Ae l') ds h u)(hx:FrIs l l':=by repeat (first | exact .nil | refine .cons rfl ?_)):WR P f n d Q m todo (Ae l) ds h u:=D7 l' hx hr
theorem A4 {ops:List Oper}{l':List (Nat×AV)}(hr:WO P f n d Q k all m ops (Ae l') ds h u)(hx:FrIs l l':=by repeat (first | exact .nil | refine .cons rfl ?_)):WO P f n d Q k all m ops (Ae l) ds h u:=E3 l' hx hr
theorem Bn {todo:List Item}{fr:Nat→AV}{ys:List (Option AO)}(hr:WR P f n d Q m todo fr ds (hp h0 ids ys) u)(e:xs=ys:=by first | (simp only [List.set_cons_zero,List.set_cons_succ,List.cons_append,List.nil_append,List.replicate_succ,List.replicate_zero,Kk,Kp,Ky,AV.cells,AV.I,AV.q]; rfl) | rfl) :
  WR P f n d Q m todo fr ds (hp h0 ids xs) u:=e ▸ hr
end
section
variable {P:Program} [GW P] {h:O} {all:List Oper} {pre:List (List Nat)} {pend:Jq} {i:Nat} {a b c d e f g o:Nat} {fa fb fc fd fe ff fg fo:Nat→AV} {va vb vc vd ve vf vg vo:AV}
theorem K4 (hc:(cl pre i a&&cl pre i b)=true)(hr:D2 P all pre i h pend):D2 P all pre i h ((a,fa,va)::(b,fb,vb)::pend):=by
 rw [Bool.and_eq_true] at hc
 exact Jv hc.1 (Jv hc.2 hr)
theorem Ri (hc:((cl pre i a&&cl pre i b)&&(cl pre i c&&cl pre i d))=true)(hr:D2 P all pre i h pend):D2 P all pre i h ((a,fa,va)::(b,fb,vb)::(c,fc,vc)::(d,fd,vd)::pend):=by
 rw [Bool.and_eq_true] at hc
 exact K4 hc.1 (K4 hc.2 hr)
theorem Pd (hc:(((cl pre i a&&cl pre i b)&&(cl pre i c&&cl pre i d))&&((cl pre i e&&cl pre i f)&&(cl pre i g&&cl pre i o)))=true)(hr:D2 P all pre i h pend) :
  D2 P all pre i h ((a,fa,va)::(b,fb,vb)::(c,fc,vc)::(d,fd,vd)::(e,fe,ve)::(f,ff,vf)::(g,fg,vg)::(o,fo,vo)::pend):=by
 rw [Bool.and_eq_true] at hc
 exact Ri hc.1 (Ri hc.2 hr)
end
section
variable {P:Program} [GW P] {s ft:TypeId} {fs:List (Nat×TypeId)} {a b:Nat} {z:List AV} {F:TI}
theorem Tc {o g r:Nat}(c off i:Nat)(hT:ti P s=some ⟨.st fs,a,b,z⟩)(hf:fs[i]? = some (off,ft))(hF:ti P ft=some F)(h0:Nat.beq F.size 0=false):El P s (.ptr o g r c) i=some (.ptr o g r (c+off)):=Abk hT hf hF h0
end
theorem J {α:Sort _}{a:α}:a=a:=rfl
theorem FI {l l':List (Nat×AV)}(h:l'.map (fun p=>Ae l p.1)=l'.map (·.2)):FrIs l l':=by
 induction l' with
 | nil=>exact .nil
 | cons p r ih=>
  rw [List.map_cons,List.map_cons] at h
  injection h with h1 h2
  exact .cons h1 (ih h2)
end Go.Am
namespace Go.Am
open Go
set_option maxRecDepth 100000
set_option maxHeartbeats 4000000
set_option linter.unusedSimpArgs false
set_option linter.unusedVariables false
structure Span where
 From:Int
 To:Int
 deriving DecidableEq
def Ah (x:Span):List AV:=[(.int .i64 x.From),(.int .i64 x.To)]
theorem Fp (x:Span):Bf 2 (Ah x):=D4 rfl rfl
structure Volume where
 Name:Ib
 Closed:(List Span)
 deriving DecidableEq
def Bg (x:Volume):List AV:=[(.str x.Name),(.sl 2 (List.map Ah x.Closed))]
theorem Fw (x:Volume):Bf 2 (Bg x):=D4 rfl rfl
def An:Volume:={ Name:=[],Closed:=[] }
structure Sector where
 Name:Ib
 Names:(List Ib)
 Volumes:(List Int)
 Radar:Int
 Procedural:Int
 deriving DecidableEq
def Bu (x:Sector):List AV:=[(.str x.Name),(.sl 1 (List.map rS x.Names)),(.sl 1 (List.map (rI .i64) x.Volumes)),(.int .i64 x.Radar),(.int .i64 x.Procedural)]
theorem Xn (x:Sector):Bf 5 (Bu x):=D4 rfl rfl
structure Config where
 Name:Ib
 Names:(List Ib)
 Sectors:(List Int)
 deriving DecidableEq
def Bt (x:Config):List AV:=[(.str x.Name),(.sl 1 (List.map rS x.Names)),(.sl 1 (List.map (rI .i64) x.Sectors))]
theorem Yo (x:Config):Bf 3 (Bt x):=D4 rfl rfl
structure Segment where
 Name:Ib
 In:Ib
 Volume:Int
 Length:Int
 Open:(List Span)
 deriving DecidableEq
def Aj (x:Segment):List AV:=[(.str x.Name),(.str x.In),(.int .i64 x.Volume),(.int .i64 x.Length),(.sl 2 (List.map Ah x.Open))]
theorem K0 (x:Segment):Bf 5 (Aj x):=D4 rfl rfl
structure Route where
 Name:Ib
 A:Ib
 B:Ib
 From:Int
 To:Int
 Names:(List Ib)
 Segments:(List Int)
 deriving DecidableEq
def A9 (x:Route):List AV:=[(.str x.Name),(.str x.A),(.str x.B),(.int .i64 x.From),(.int .i64 x.To),(.sl 1 (List.map rS x.Names)),(.sl 1 (List.map (rI .i64) x.Segments))]
theorem Tx (x:Route):Bf 7 (A9 x):=D4 rfl rfl
structure Mode where
 Name:Ib
 Places:Int
 deriving DecidableEq
def Ta (x:Mode):List AV:=[(.str x.Name),(.int .i64 x.Places)]
theorem Aae (x:Mode):Bf 2 (Ta x):=D4 rfl rfl
structure Airport where
 Name:Ib
 Modes:(List Mode)
 deriving DecidableEq
def Bo (x:Airport):List AV:=[(.str x.Name),(.sl 2 (List.map Ta x.Modes))]
theorem W6 (x:Airport):Bf 2 (Bo x):=D4 rfl rfl
structure Class where
 Name:Ib
 Slow:Int
 Fast:Int
 Places:Int
 deriving DecidableEq
def Cu (x:Class):List AV:=[(.str x.Name),(.int .i64 x.Slow),(.int .i64 x.Fast),(.int .i64 x.Places)]
theorem Ze (x:Class):Bf 4 (Cu x):=D4 rfl rfl
structure Rule where
 Kind:Int
 C:Ib
 A:Ib
 Class:Int
 Airport:Int
 N:Int
 Hours:Span
 deriving DecidableEq
def Dp (x:Rule):List AV:=[(.int .i64 x.Kind),(.str x.C),(.str x.A),(.int .i64 x.Class),(.int .i64 x.Airport),(.int .i64 x.N),(.int .i64 x.Hours.From),(.int .i64 x.Hours.To)]
theorem Aa7 (x:Rule):Bf 8 (Dp x):=D4 rfl rfl
structure Airspace where
 Volumes:(List Volume)
 Sectors:(List Sector)
 Configs:(List Config)
 Segments:(List Segment)
 Routes:(List Route)
 Airports:(List Airport)
 Classes:(List Class)
 Rules:(List Rule)
 deriving DecidableEq
def Ac (x:Airspace):List AV:=[(.sl 2 (List.map Bg x.Volumes)),(.sl 5 (List.map Bu x.Sectors)),(.sl 3 (List.map Bt x.Configs)),(.sl 5 (List.map Aj x.Segments)),(.sl 7 (List.map A9 x.Routes)),(.sl 2 (List.map Bo x.Airports)),(.sl 4 (List.map Cu x.Classes)),(.sl 8 (List.map Dp x.Rules))]
structure Leg where
 Segment:Int
 Volume:Int
 Length:Int
 Minutes:(List Span)
 deriving DecidableEq
def Bv (x:Leg):List AV:=[(.int .i64 x.Segment),(.int .i64 x.Volume),(.int .i64 x.Length),(.sl 2 (List.map Ah x.Minutes))]
theorem Yr (x:Leg):Bf 4 (Bv x):=D4 rfl rfl
structure T85 where
 deriving DecidableEq
def Um (x:T85):List AV:=[]
end Go.Am
namespace Go.Am
open Go
set_option maxRecDepth 100000
set_option maxHeartbeats 4000000
set_option linter.unusedSimpArgs false
set_option linter.unusedVariables false
noncomputable section
def I3:R Airspace:=
 .ok ({ Volumes:=[({ Name:=[],Closed:=[({ From:=150,To:=160 }:Span)] }:Volume),({ Name:=[],Closed:=[({ From:=0,To:=1440 }:Span)] }:Volume)],Sectors:=[],Configs:=[],Segments:=[({ Name:=[],In:=[],Volume:=0,Length:=30,Open:=[({ From:=100,To:=200 }:Span)] }:Segment),({ Name:=[],In:=[],Volume:=1,Length:=40,Open:=[] }:Segment)],Routes:=[({ Name:=[],A:=[],B:=[],From:=0,To:=0,Names:=[],Segments:=[0] }:Route),({ Name:=[],A:=[],B:=[],From:=0,To:=0,Names:=[],Segments:=[0,1] }:Route),({ Name:=[],A:=[],B:=[],From:=0,To:=0,Names:=[],Segments:=[] }:Route)],Airports:=[],Classes:=[],Rules:=[] }:Airspace)
def Dq (a:Span)(m:Int)(o1:(Vector Bool 1440)):R ((Int×(Vector Bool 1440)) ⊕ (Vector Bool 1440)):=
 if m<(if 1440<a.To then 1440 else a.To) then
(if(0:Int)≤m∧m<1440 then
 .ok (.inl ((IntKind.wrap .i64 (m+1)),(I9 o1 (Int.toNat m) true))) else .bad)
else
(.ok (.inr (o1)))
def Ik (o2:(Vector Bool 1440)):R (Vector Bool 1440):=
 .ok o2
def Ey (a:Span)(o:(Vector Bool 1440)):R (Vector Bool 1440):=
 (loop (Ia fun m o1=>Dq a m o1) ((if 0 > a.From then 0 else a.From),o)).bind (fun o2=>Ik o2)
def Gw (l:List Span):R (Vector Bool 1440):=
 (Dc (fun _ a=>fun o=>Ey a o) 0 l (N9 1440 false)).bind ((fun o=>.ok o))
def H5 (a:Bool)(y:Bool):R Bool:=
 .ok (a&&(!y))
def Eb (s:(Vector Bool 1440)):R Unit:=
 .ok ()
section
variable {σ_:Type}
def Bi (b:(Vector Bool 1440))(vto:Int)(s1:σ_):R ((Int×σ_) ⊕ (Int×σ_)):=
 (if(decide (vto<1440)) then if(0:Int)≤vto∧vto<1440 then
 R.ok (Cd b (Int.toNat vto) false) else .bad else R.ok false).bind (fun(b1:Bool)=>if b1 then
(.ok (.inl ((IntKind.wrap .i64 (vto+1)),s1)))
else
(.ok (.inr ((vto,s1)))))
def Da (b_:Span→σ_→R σ_)(vfrom:Int)(vto1:Int)(s2:σ_):R ((Int×σ_) ⊕ σ_):=
 (b_ ({ From:=vfrom,To:=vto1 }:Span) s2).bind fun s3=>
 .ok (.inl ((IntKind.wrap .i64 (vto1+1)),s3))
def A2 (b:(Vector Bool 1440))(b_:Span→σ_→R σ_)(vfrom:Int)(s:σ_):R ((Int×σ_) ⊕ σ_):=
 if vfrom<1440 then
(if(0:Int)≤vfrom∧vfrom<1440 then
 if(Cd b (Int.toNat vfrom) false) then
((loop (Ia fun vto s1=>Bi b vto s1) ((IntKind.wrap .i64 (vfrom+1)),s)).bind (Ia fun vto1 s2=>Da b_ vfrom vto1 s2))
else
(.ok (.inl ((IntKind.wrap .i64 (vfrom+1)),s))) else .bad)
else
(.ok (.inr (s)))
def Db (s4:σ_):R σ_:=
 .ok s4
def Du (b:(Vector Bool 1440))(b_:Span→σ_→R σ_)(s_:σ_):R σ_:=
 (loop (Ia fun vfrom s=>A2 b b_ vfrom s) (0,s_)).bind (fun s4=>Db s4)
end
def Ci (a:Span)(l:List Span):R (List Span):=
 if(l.length+[a].length) * 16≤Do then
 .ok (l++[a]) else .bad
def Cv (s1:(Vector Bool 1440)):R (List Span):=
 (Du s1 (fun a z_=>R.np ((fun l=>Ci a l) z_)) []).bind (fun l=>.ok l)
def Ca (s1:(Vector Bool 1440)):R (List Span):=
 (Cv s1).bind fun r=>
 .ok r
def Cj (e:(Vector Bool 1440))(j:Nat)(o:(Vector Bool 1440)):R (Vector Bool 1440):=
 (H5 (Cd o j false) (Cd e j false)).bind fun r=>
 .ok (I9 o j r)
def Gu (a:List Span)(b:List Span):R (List Span):=
 (Gw a).bind fun d=>
 (Gw b).bind fun e=>
 (Dc (fun j _=>fun o=>Cj e j o) 0 (List.range 1440) d).bind ((fun o=>(Eb o).bind fun _=>
 (Ca o).bind fun r2=>
 .ok r2))
def Ie (a:List Span)(b:List Span):R (List Span):=
 (Gu a b).bind fun r=>
 .ok r
def Dt (a:Airspace)(a1:Segment)(vopen:List Span):R (List Span):=
 (Hm a.Volumes a1.Volume).bind fun a2=>
 (Ie vopen a2.Closed).bind fun r=>
 .ok r
def Dk (a:Airspace)(segment:Int):R (List Span):=
 if((decide (segment<0))||(decide (segment≥(a.Segments.length:Int)))) then
(.pan ⟨86,.unit⟩)
else
((Hm a.Segments segment).bind fun a1=>
 if((decide (a1.Volume<0))||(decide (a1.Volume≥(a.Volumes.length:Int)))) then
(.pan ⟨86,.unit⟩)
else
(if((a1.Open.length:Int)==0) then
(Dt a a1 [({ From:=0,To:=1440 }:Span)])
else
(Dt a a1 a1.Open)))
def Cx:R Unit:=
 .ok ()
def Bb (p:T85):R Unit:=
 .ok ()
def A5:R Unit:=
 (Bb ({}:T85)).bind fun _=>
 .ok ()
def Ed (a:Airspace)(segment:Int):R ((List Span)×Int):=
 (Dk a segment).bind fun l=>
 .ok (l,0)
def Cq (a:Airspace)(segment:Int):R ((List Span)×Int):=
 (Ed a segment).catch' (Cb 86 ((A5).bind fun _=>.ok ([],1)) (fun _=>.bad))
def Ej (a:Airspace)(route:Int):R Unit:=
 .ok ()
section
variable {σ_:Type}
def Df (c:Airspace)(b_:Leg→σ_→R σ_)(a1:Int)(s:σ_):R σ_:=
 (Dk c a1).bind fun m=>
 (Hm c.Segments a1).bind fun a2=>
 (b_ ({ Segment:=a1,Volume:=a2.Volume,Length:=a2.Length,Minutes:=m }:Leg) s).bind fun s1=>
 .ok s1
def D3 (b:Int)(c:Airspace)(b_:Leg→σ_→R σ_)(s_:σ_):R σ_:=
 if((decide (b<0))||(decide (b≥(c.Routes.length:Int)))) then
(.pan ⟨86,.unit⟩)
else
((Hm c.Routes b).bind fun a=>
 (Dc (fun _ a1=>fun s=>Df c b_ a1 s) 0 a.Segments s_).bind ((fun s=>.ok s)))
end
def Ck:R Unit:=
 (Bb ({}:T85)).bind fun _=>
 .ok ()
def Ev (a1:Leg)(l:List Leg):R (List Leg):=
 if(l.length+[a1].length) * 48≤Do then
 .ok (l++[a1]) else .bad
def H2 (a:Airspace)(route:Int):R ((List Leg)×Int):=
 (Ej a route).bind fun _=>
 (D3 route a (fun a1 z_=>R.np ((fun l=>Ev a1 l) z_)) []).bind (fun l=>.ok (l,0))
def Hn (a:Airspace)(route:Int):R ((List Leg)×Int):=
 (H2 a route).catch' (Cb 86 ((Ck).bind fun _=>.ok ([],1)) (fun _=>.bad))
def maps_Keys_34 (m:(List (Int×Bool))):R Unit:=.ok ()
def Fg (m:(List (Int×Bool))):R (List Int):=Hw m
def B2:R Unit:=
 (Bb ({}:T85)).bind fun _=>
 .ok ()
def C3 (a:Airspace)(j:Nat)(a1:Segment)(m:(List (Int×Bool))):R (List (Int×Bool)):=
 (Dk a (j:Int)).bind fun r=>
 if(r.length:Int) > 0 then
(.ok (E1 m a1.Volume true))
else
(.ok m)
def Fy (a:Airspace):R ((List Int)×Int):=
 (Dc (fun j a1=>fun m=>C3 a j a1 m) 0 a.Segments []).bind ((fun m=>(maps_Keys_34 m).bind fun _=>
 (Fg m).bind fun l=>
 .ok (l,0)))
def Cs (a:Airspace):R ((List Int)×Int):=
 (Fy a).catch' (Cb 86 ((B2).bind fun _=>.ok ([],1)) (fun _=>.bad))
def B8:R Unit:=
 (Bb ({}:T85)).bind fun _=>
 .ok ()
def Fu (a2:Leg)(o:Bool):R Bool:=
 .ok (o||((a2.Minutes.length:Int)==0))
def Dg (a:Airspace)(j:Nat)(x1:List Int):R (List Int):=
 (Ej a (j:Int)).bind fun _=>
 (D3 (j:Int) a (fun a2 z_=>R.np ((fun o=>Fu a2 o) z_)) false).bind (fun o=>if o then
(if(x1.length+[(j:Int)].length) * 8≤Do then
 .ok (x1++[(j:Int)]) else .bad)
else
(.ok x1))
def F7 (a:Airspace):R ((List Int)×Int):=
 (Dc (fun j _=>fun x1=>Dg a j x1) 0 a.Routes []).bind ((fun x1=>.ok (x1,0)))
def B0 (a:Airspace):R ((List Int)×Int):=
 (F7 a).catch' (Cb 86 ((B8).bind fun _=>.ok ([],1)) (fun _=>.bad))
def Ep (b:List Span)(j:Nat)(a1:Span):R (Unit ⊕ Bool):=
 (Hm b (j:Int)).bind fun a2=>
 if((a1.From==a2.From)&&(a1.To==a2.To)) then
(.ok (.inl ()))
else
(.ok (.inr (false)))
def D5 (a:List Span)(b:List Span):R Bool:=
 if((a.length:Int) != (b.length:Int)) then
(.ok false)
else
((each (fun j a1=>fun _=>Ep b j a1) 0 a ()).bind (D9 (fun _=>.ok true) (fun r=>.ok r)))
def F6 (b:List Int)(j:Nat)(a1:Int):R (Unit ⊕ Bool):=
 (Hm b (j:Int)).bind fun a2=>
 if(a1 != a2) then
(.ok (.inr (false)))
else
(.ok (.inl ()))
def Cn (a:List Int)(b:List Int):R Bool:=
 if((a.length:Int) != (b.length:Int)) then
(.ok false)
else
((each (fun j a1=>fun _=>F6 b j a1) 0 a ()).bind (D9 (fun _=>.ok true) (fun r=>.ok r)))
def Jg:R Bool:=
 (I3).bind fun r=>
 (Cq r 0).bind fun r1=>
 (Hn r 1).bind fun r2=>
 (Hn r 2).bind fun r3=>
 (Cs r).bind fun r4=>
 (B0 r).bind fun r5=>
 (Cq ({ Volumes:=[],Sectors:=[],Configs:=[],Segments:=[],Routes:=[],Airports:=[],Classes:=[],Rules:=[] }:Airspace) 0).bind fun r6=>
 (Cs ({ Volumes:=[],Sectors:=[],Configs:=[],Segments:=[],Routes:=[],Airports:=[],Classes:=[],Rules:=[] }:Airspace)).bind fun r7=>
 (B0 ({ Volumes:=[],Sectors:=[],Configs:=[],Segments:=[],Routes:=[],Airports:=[],Classes:=[],Rules:=[] }:Airspace)).bind fun r8=>
 if(((((((((r1.2 != 0)||(r2.2 != 0))||(r3.2 != 0))||(r4.2 != 0))||(r5.2 != 0))||(r6.2 != 1))||(r7.2 != 0))||(r8.2 != 0))||((r2.1.length:Int) != 2)) then
(.ok false)
else
((D5 r1.1 [({ From:=100,To:=150 }:Span),({ From:=160,To:=200 }:Span)]).bind fun r9=>
 (if r9 then(Hm r2.1 1).bind fun a=>
 R.ok (a.Volume==1) else R.ok false).bind (fun(b:Bool)=>(if b then(Hm r2.1 1).bind fun a1=>
 R.ok (a1.Length==40) else R.ok false).bind (fun(b1:Bool)=>(if b1 then(Hm r2.1 1).bind fun a2=>
 R.ok ((a2.Minutes.length:Int)==0) else R.ok false).bind (fun(b2:Bool)=>(if(b2&&((r3.1.length:Int)==0)) then(Cn r4.1 [0]).bind fun r10=>
 R.ok r10 else R.ok false).bind (fun(b3:Bool)=>(if b3 then(Cn r5.1 [1]).bind fun r11=>
 R.ok r11 else R.ok false).bind (fun(b4:Bool)=>.ok ((b4&&((r7.1.length:Int)==0))&&((r8.1.length:Int)==0))))))))
def I7 (a1:Volume):R (Unit ⊕ Bool):=
 if(a1.Closed.length:Int) > 8 then
(.ok (.inr (false)))
else
(.ok (.inl ()))
def Hh (a2:Sector):R (Unit ⊕ Bool):=
 if((decide ((a2.Volumes.length:Int) > 16))||(decide ((a2.Names.length:Int) > 16))) then
(.ok (.inr (false)))
else
(.ok (.inl ()))
def Ga (a3:Config):R (Unit ⊕ Bool):=
 if((decide ((a3.Sectors.length:Int) > 16))||(decide ((a3.Names.length:Int) > 16))) then
(.ok (.inr (false)))
else
(.ok (.inl ()))
def Fc (a4:Segment):R (Unit ⊕ Bool):=
 if(a4.Open.length:Int) > 8 then
(.ok (.inr (false)))
else
(.ok (.inl ()))
def Et (a5:Route):R (Unit ⊕ Bool):=
 if((decide ((a5.Segments.length:Int) > 10))||(decide ((a5.Names.length:Int) > 10))) then
(.ok (.inr (false)))
else
(.ok (.inl ()))
def Ea (a6:Airport):R (Unit ⊕ Bool):=
 if(a6.Modes.length:Int) > 6 then
(.ok (.inr (false)))
else
(.ok (.inl ()))
def J5 (a:Airspace):R Bool:=
 if((((((((decide ((a.Volumes.length:Int) > 12))||(decide ((a.Sectors.length:Int) > 12)))||(decide ((a.Configs.length:Int) > 8)))||(decide ((a.Segments.length:Int) > 16)))||(decide ((a.Routes.length:Int) > 10)))||(decide ((a.Airports.length:Int) > 8)))||(decide ((a.Classes.length:Int) > 6)))||(decide ((a.Rules.length:Int) > 12))) then
(.ok false)
else
((each (fun _ a1=>fun _=>I7 a1) 0 a.Volumes ()).bind (D9 (fun _=>(each (fun _ a2=>fun _=>Hh a2) 0 a.Sectors ()).bind (D9 (fun _=>(each (fun _ a3=>fun _=>Ga a3) 0 a.Configs ()).bind (D9 (fun _=>(each (fun _ a4=>fun _=>Fc a4) 0 a.Segments ()).bind (D9 (fun _=>(each (fun _ a5=>fun _=>Et a5) 0 a.Routes ()).bind (D9 (fun _=>(each (fun _ a6=>fun _=>Ea a6) 0 a.Airports ()).bind (D9 (fun _=>.ok true) (fun r=>.ok r))) (fun r=>.ok r))) (fun r=>.ok r))) (fun r=>.ok r))) (fun r=>.ok r))) (fun r=>.ok r)))
def B6 (j:Nat)(l:List Volume):R (List Volume):=
 (Hm l (j:Int)).bind fun a2=>
 .ok (l.set (j:Int).toNat { a2 with Closed:=[({ From:=700,To:=1440 }:Span),({ From:=0,To:=700 }:Span)] })
def B7 (a:Airspace)(l:List Volume)(j1:Nat)(l1:List Segment):R ((List Segment) ⊕ Bool):=
 (Hm l1 (j1:Int)).bind fun a4=>
 (Cq ({ Volumes:=(List.replicate (Int.toNat (a.Volumes.length:Int)) An),Sectors:=a.Sectors,Configs:=a.Configs,Segments:=(l1.set (j1:Int).toNat { a4 with Open:=[] }),Routes:=a.Routes,Airports:=a.Airports,Classes:=a.Classes,Rules:=a.Rules }:Airspace) (j1:Int)).bind fun r2=>
 (Cq ({ Volumes:=l,Sectors:=a.Sectors,Configs:=a.Configs,Segments:=a.Segments,Routes:=a.Routes,Airports:=a.Airports,Classes:=a.Classes,Rules:=a.Rules }:Airspace) (j1:Int)).bind fun r3=>
 (if(r2.2 != r3.2) then R.ok true else(if(r2.2==0) then(if((r3.1.length:Int) != 0) then R.ok true else(D5 r2.1 [({ From:=0,To:=1440 }:Span)]).bind fun r4=>
 R.ok (!r4)).bind (fun(b2:Bool)=>R.ok b2) else R.ok false).bind (fun(b1:Bool)=>R.ok b1)).bind (fun(b:Bool)=>if b then
(.ok (.inr (false)))
else
(.ok (.inl (l1.set (j1:Int).toNat { a4 with Open:=[] }))))
def Bc (a5:Route)(x2:Int):R Int:=
 if(a5.Segments.length:Int) > 0 then
(.ok (IntKind.wrap .i64 (x2+1)))
else
(.ok x2)
def En (a:Airspace)(r:Bool):R Bool:=
 if(0:Int)≤(a.Volumes.length:Int)∧((a.Volumes.length:Int):Int)≤(a.Volumes.length:Int)∧(Int.toNat (a.Volumes.length:Int)) * 40≤Do then
 if(0:Int)≤(a.Volumes.length:Int)∧((a.Volumes.length:Int):Int)≤(a.Volumes.length:Int)∧(Int.toNat (a.Volumes.length:Int)) * 40≤Do then
 (Dc (fun j _=>fun l=>B6 j l) 0 a.Volumes (List.replicate (Int.toNat (a.Volumes.length:Int)) An)).bind ((fun l=>if a.Segments.length * 72≤Do then
 (each (fun j1 _=>fun l1=>B7 a l j1 l1) 0 a.Segments a.Segments).bind (D9 (fun l1=>(B0 ({ Volumes:=(List.replicate (Int.toNat (a.Volumes.length:Int)) An),Sectors:=a.Sectors,Configs:=a.Configs,Segments:=l1,Routes:=a.Routes,Airports:=a.Airports,Classes:=a.Classes,Rules:=a.Rules }:Airspace)).bind fun r5=>
 (B0 ({ Volumes:=l,Sectors:=a.Sectors,Configs:=a.Configs,Segments:=a.Segments,Routes:=a.Routes,Airports:=a.Airports,Classes:=a.Classes,Rules:=a.Rules }:Airspace)).bind fun r6=>
 (Cs ({ Volumes:=l,Sectors:=a.Sectors,Configs:=a.Configs,Segments:=a.Segments,Routes:=a.Routes,Airports:=a.Airports,Classes:=a.Classes,Rules:=a.Rules }:Airspace)).bind fun r7=>
 if(r5.2 != r6.2) then
(.ok false)
else
(if(r5.2 != 0) then
(.ok (((r5.1.length:Int)==0)&&((r6.1.length:Int)==0)))
else
((Dc (fun _ a5=>fun x2=>Bc a5 x2) 0 a.Routes 0).bind ((fun x2=>.ok ((((r5.1.length:Int)==0)&&((r6.1.length:Int)==x2))&&((r7.2 != 0)||((r7.1.length:Int)==0)))))))) (fun r=>.ok r)) else .bad)) else .bad else .bad
def Fk (a:Airspace):R Bool:=
 (Jg).bind fun r=>
 if r then
((J5 a).bind fun r1=>
 if r1 then
(En a r)
else
(.ok true))
else
(.ok false)
end
end Go.Am
namespace Go.Am
open Go
set_option linter.unusedVariables false
def Jd:Ty Span:=⟨Ah,fun x=>(Bd .i64).good x.From∧(Bd .i64).good x.To∧True,fun x=>((Bd .i64).bulk x.From+((Bd .i64).bulk x.To+(0)))+1⟩
def Jt:Ty Volume:=⟨Bg,fun x=>Bx.good x.Name∧(Bs 2 Jd).good x.Closed∧True,fun x=>(Bx.bulk x.Name+((Bs 2 Jd).bulk x.Closed+(0)))+1⟩
def K9:Ty Sector:=⟨Bu,fun x=>Bx.good x.Name∧(Bs 1 Bx).good x.Names∧(Bs 1 (Bd .i64)).good x.Volumes∧(Bd .i64).good x.Radar∧(Bd .i64).good x.Procedural∧True,fun x=>(Bx.bulk x.Name+((Bs 1 Bx).bulk x.Names+((Bs 1 (Bd .i64)).bulk x.Volumes+((Bd .i64).bulk x.Radar+((Bd .i64).bulk x.Procedural+(0))))))+1⟩
def K8:Ty Config:=⟨Bt,fun x=>Bx.good x.Name∧(Bs 1 Bx).good x.Names∧(Bs 1 (Bd .i64)).good x.Sectors∧True,fun x=>(Bx.bulk x.Name+((Bs 1 Bx).bulk x.Names+((Bs 1 (Bd .i64)).bulk x.Sectors+(0))))+1⟩
def Ip:Ty Segment:=⟨Aj,fun x=>Bx.good x.Name∧Bx.good x.In∧(Bd .i64).good x.Volume∧(Bd .i64).good x.Length∧(Bs 2 Jd).good x.Open∧True,fun x=>(Bx.bulk x.Name+(Bx.bulk x.In+((Bd .i64).bulk x.Volume+((Bd .i64).bulk x.Length+((Bs 2 Jd).bulk x.Open+(0))))))+1⟩
def I6:Ty Route:=⟨A9,fun x=>Bx.good x.Name∧Bx.good x.A∧Bx.good x.B∧(Bd .i64).good x.From∧(Bd .i64).good x.To∧(Bs 1 Bx).good x.Names∧(Bs 1 (Bd .i64)).good x.Segments∧True,fun x=>(Bx.bulk x.Name+(Bx.bulk x.A+(Bx.bulk x.B+((Bd .i64).bulk x.From+((Bd .i64).bulk x.To+((Bs 1 Bx).bulk x.Names+((Bs 1 (Bd .i64)).bulk x.Segments+(0))))))))+1⟩
def Ql:Ty Mode:=⟨Ta,fun x=>Bx.good x.Name∧(Bd .i64).good x.Places∧True,fun x=>(Bx.bulk x.Name+((Bd .i64).bulk x.Places+(0)))+1⟩
def Jp:Ty Airport:=⟨Bo,fun x=>Bx.good x.Name∧(Bs 2 Ql).good x.Modes∧True,fun x=>(Bx.bulk x.Name+((Bs 2 Ql).bulk x.Modes+(0)))+1⟩
def Mb:Ty Class:=⟨Cu,fun x=>Bx.good x.Name∧(Bd .i64).good x.Slow∧(Bd .i64).good x.Fast∧(Bd .i64).good x.Places∧True,fun x=>(Bx.bulk x.Name+((Bd .i64).bulk x.Slow+((Bd .i64).bulk x.Fast+((Bd .i64).bulk x.Places+(0)))))+1⟩
def O3:Ty Rule:=⟨Dp,fun x=>(Bd .i64).good x.Kind∧Bx.good x.C∧Bx.good x.A∧(Bd .i64).good x.Class∧(Bd .i64).good x.Airport∧(Bd .i64).good x.N∧Jd.good x.Hours∧True,fun x=>((Bd .i64).bulk x.Kind+(Bx.bulk x.C+(Bx.bulk x.A+((Bd .i64).bulk x.Class+((Bd .i64).bulk x.Airport+((Bd .i64).bulk x.N+(Jd.bulk x.Hours+(0))))))))+1⟩
def J3:Ty Airspace:=⟨Ac,fun x=>(Bs 2 Jt).good x.Volumes∧(Bs 5 K9).good x.Sectors∧(Bs 3 K8).good x.Configs∧(Bs 5 Ip).good x.Segments∧(Bs 7 I6).good x.Routes∧(Bs 2 Jp).good x.Airports∧(Bs 4 Mb).good x.Classes∧(Bs 8 O3).good x.Rules∧True,fun x=>((Bs 2 Jt).bulk x.Volumes+((Bs 5 K9).bulk x.Sectors+((Bs 3 K8).bulk x.Configs+((Bs 5 Ip).bulk x.Segments+((Bs 7 I6).bulk x.Routes+((Bs 2 Jp).bulk x.Airports+((Bs 4 Mb).bulk x.Classes+((Bs 8 O3).bulk x.Rules+(0)))))))))+1⟩
def F5:Prop := ∀ (a0:Airspace) (_:J3.good a0),J3.bulk a0≤1048576→Fk a0=.ok true
end Go.Am
namespace Go.Am
open Go
set_option linter.unusedVariables false
set_option linter.unusedSectionVars false
set_option linter.unusedSimpArgs false
theorem Qs {α σ:Type}(b:Nat→α→σ→R σ)(k:Nat)(s:σ):Dc b k [] s=.ok s:=rfl
theorem F1 {α σ:Type}(b:Nat→α→σ→R σ)(k:Nat)(a:α)(l:List α)(s:σ):Dc b k (a::l) s=(b k a s).bind fun s'=>Dc b (k+1) l s':=by
 rw [Dc]
theorem Tp {n:Int}(h1 : -9223372036854775808≤n)(h2:n≤9223372036854775807):IntKind.wrap .i64 n=n:=by
 simp [IntKind.wrap,IntKind.bits,IntKind.signed]
 omega
theorem Pa {τ:Type}{st:Nat}{T:Ty τ}(h : ∀ a,1≤T.bulk a)(l:List τ):l.length+1≤(Bs st T).bulk l:=by
 show l.length+1≤(l.map T.bulk).sum+1
 induction l with
 | nil=>simp
 | cons a l ih=>
  have:=h a
  simp only [List.length_cons,List.map_cons,List.sum_cons] at ih ⊢
  omega
theorem Aaq {τ:Type}{st:Nat}{T:Ty τ}{l:List τ}{a:τ}(h:a ∈ l):T.bulk a+1≤(Bs st T).bulk l:=by
 show T.bulk a+1≤(l.map T.bulk).sum+1
 induction l with
 | nil=>cases h
 | cons b l ih=>
  simp only [List.map_cons,List.sum_cons]
  rcases List.mem_cons.1 h with rfl | h
  ·omega
  ·have:=ih h; omega
theorem Yx {k:IntKind}(n:Int):1≤(Bd k).bulk n:=Nat.le_refl _
section
variable {K V:Type} [DecidableEq K]
@[simp] theorem Adf (k:K):Rr ([]:List (K×V)) k=none:=rfl
end
theorem Rj {α:Type}{l:List α}{j:Nat}{a:α}(h:l[j]? = some a):Hm l (j:Int)=.ok a:=by
 unfold Hm
 rw [if_pos (by omega)]
 simp [h]
abbrev Ace:=List UInt8
def pos (l:List Ace)(x:Ace):Option Nat:=l.findIdx? (· == x)
theorem Uo {α:Type}{b:Nat→α→Unit→R (Unit ⊕ Bool)} : ∀ (l:List α) (k:Nat),(∀ (j:Nat) a,l[j]? = some a→b (k+j) a ()=.ok (.inl ()))→each b k l ()=.ok (.inl ())
 | [],k,_=>rfl
 | a::l,k,hb=>by
  rw [J2,show b k a ()=.ok (.inl ()) from hb 0 a rfl]
  simp only [R.ok_bind]
  exact Uo l (k+1) fun j x h=>by have:=hb (j+1) x (by simpa using h); rwa [Nat.add_comm j 1,← Nat.add_assoc] at this
end Go.Am
namespace Go.Am
open Go
set_option linter.unusedVariables false
set_option linter.unusedSimpArgs false
set_option maxRecDepth 100000
theorem Wa {σ:Type}{b:Int×σ→R ((Int×σ) ⊕ σ)}{hi:Int}{g:Nat→σ→σ}{I:σ→Prop}(hI : ∀ (m:Nat) s,I s→(m:Int)<hi→I (g m s))(h1 : ∀ (m:Nat) s,I s→(m:Int)<hi→b ((m:Int),s)=.ok (.inl (((m+1:Nat):Int),g m s)))
  (h2 : ∀ (m:Nat) s,I s→hi≤(m:Int)→b ((m:Int),s)=.ok (.inr s)) : ∀ (n m:Nat) (s:σ),I s→(hi - (m:Int)).toNat=n→loop b ((m:Int),s)=.ok ((List.range' m n).foldl (fun s j=>g j s) s)
 | 0,m,s,hs,hn=>by
  rw [Jo,h2 m s hs (by omega)]; rfl
 | n+1,m,s,hs,hn=>by
  rw [Jo,h1 m s hs (by omega)]
  simp only [R.ok_bind]
  rw [Wa hI h1 h2 n (m+1) (g m s) (hI m s hs (by omega)) (by omega)]
  simp [List.range'_succ]
def X5 (s:Span)(i:Nat):Bool:=decide (s.From≤(i:Int))&&decide ((i:Int)<s.To)
def Ph (l:List Span)(i:Nat):Bool:=l.any fun s=>X5 s i
theorem Wt {m:Nat}(h:(m:Int)<1440):IntKind.wrap .i64 ((m:Int)+1)=((m+1:Nat):Int):=by
 rw [Tp (by omega) (by omega)]; simp
theorem R4 {n:Nat}(v:Vector Bool n)(i j:Nat)(x:Bool)(hi:i<n):Cd (I9 v i x) j false=if i=j then x else Cd v j false:=by
 unfold Cd I9
 have:(v.setIfInBounds i x).toList=v.toList.set i x:=by simp
 rw [this]
 simp only [List.getD,List.getElem?_set]
 have hl:i<v.toList.length:=by simpa using hi
 by_cases hij:i=j
 ·subst hij; simp [hi]
 ·simp [hij]
theorem Y8 (n i:Nat):(List.replicate n false).getD i false=false:=by
 rw [List.getD_eq_getElem?_getD,List.getElem?_replicate]
 split <;> rfl
theorem Aas (n i:Nat):Cd (N9 n false) i false=false:=by
 unfold Cd N9
 rw [Vector.toList_replicate]
 exact Y8 n i
theorem Sq (f:Nat→Bool) : ∀ (n m:Nat) (v:Vector Bool 1440),m+n≤1440→(∀ i,i<1440→Cd v i false=f i) → ∀ i,i<1440→Cd ((List.range' m n).foldl (fun s j=>I9 s j true) v) i false=(f i||(decide (m≤i)&&decide (i<m+n)))
 | 0,m,v,_,hf,i,hi=>by
  have:(decide (m≤i)&&decide (i<m+0))=false:=by simp
  rw [this]; simpa using hf i hi
 | n+1,m,v,hm,hf,i,hi=>by
  rw [List.range'_succ,List.foldl_cons]
  rw [Sq (fun i=>if m=i then true else f i) n (m+1) (I9 v m true) (by omega) (fun i hi=>by rw [R4 _ _ _ _ (by omega),hf i hi]) i hi]
  by_cases hmi:m=i
  ·subst hmi; simp
  ·rw [if_neg hmi]
   congr 1
   have e1:decide (m+1≤i)=decide (m≤i):=by apply decide_eq_decide.2; omega
   have e2:decide (i<m+1+n)=decide (i<m+(n+1)):=by apply decide_eq_decide.2; omega
   rw [e1,e2]
def lo (s:Span):Nat:=s.From.toNat
def hi (s:Span):Int:=if 1440<s.To then 1440 else s.To
theorem Ab9 (s:Span)(i:Nat)(h:i<1440):(decide (lo s≤i)&&decide (i<lo s+(hi s - (lo s:Int)).toNat))=X5 s i:=by
 unfold X5 lo hi
 rw [Bool.eq_iff_iff]
 simp only [Bool.and_eq_true,decide_eq_true_eq]
 split <;> omega
theorem Acx (s:Span):(if 0 > s.From then 0 else s.From)=(lo s:Int):=by
 unfold lo; split <;> omega
theorem Vb (a:Span)(v:Vector Bool 1440)(f:Nat→Bool)(hf : ∀ i,i<1440→Cd v i false=f i) : ∃ v',Ey a v=.ok v' ∧ ∀ i,i<1440→Cd v' i false=(f i||X5 a i):=by
 unfold Ey
 rw [Acx]
 have hlt:hi a≤1440:=by unfold hi; split <;> omega
 have:=Wa (b:=Ia fun m o1=>Dq a m o1) (hi:=hi a) (g:=fun j v=>I9 v j true) (I:=fun _=>True) (fun _ _ _ _=>trivial)
  (fun m s _ hm=>by
   show Dq a m s=_
   unfold Dq
   have hm':(m:Int)<(if 1440<a.To then 1440 else a.To):=hm
   rw [if_pos hm',if_pos ⟨by omega,by omega⟩,Wt (by omega)]
   simp)
  (fun m s _ hm=>by
   show Dq a m s=_
   unfold Dq
   have hm':¬ (m:Int)<(if 1440<a.To then 1440 else a.To):=by have:hi a≤(m:Int):=hm; unfold hi at this; omega
   rw [if_neg hm'])
  _ (lo a) v trivial rfl
 rw [this]
 refine⟨_,rfl,fun i hi'=>?_⟩
 rw [← Ab9 a i hi']
 by_cases hc:(hi a - (lo a:Int)).toNat=0
 ·rw [hc]
  have:(decide (lo a≤i)&&decide (i<lo a+0))=false:=by rw [Bool.eq_false_iff]; simp
  rw [this]; simpa using hf i hi'
 ·exact Sq f _ _ v (by omega) hf i hi'
theorem Of (l:List Span) : ∃ v,Gw l=.ok v ∧ ∀ i,i<1440→Cd v i false=Ph l i:=by
 have key : ∀ (l:List Span) (k:Nat) (v:Vector Bool 1440) (f:Nat→Bool),(∀ i,i<1440→Cd v i false=f i) → ∃ v',Dc (fun _ a=>fun o=>Ey a o) k l v=.ok v' ∧ ∀ i,i<1440→Cd v' i false=(f i||Ph l i):=by
  intro l
  induction l with
  | nil=>intro k v f hf; exact⟨v,rfl,fun i hi=>by simpa [Ph] using hf i hi⟩
  | cons a l ih=>
   intro k v f hf
   obtain⟨v',h1,h2⟩:=Vb a v f hf
   obtain⟨v2,h3,h4⟩:=ih (k+1) v' _ h2
   refine⟨v2,by rw [F1,h1,R.ok_bind,h3],fun i hi=>?_⟩
   rw [h4 i hi]
   simp [Ph,Bool.or_assoc]
 obtain⟨v,h1,h2⟩:=key l 0 (N9 1440 false) (fun _=>false) (fun i hi=>Aas _ _)
 exact⟨v,by unfold Gw; rw [h1]; rfl,fun i hi=>by simpa using h2 i hi⟩
theorem Wr {v:Vector Bool 1440}{f:Nat→Bool}(h : ∀ i,i<1440→Cd v i false=f i):v.toList=(List.range 1440).map f:=by
 apply List.ext_getElem?
 intro i
 by_cases hi:i<1440
 ·have h1:=h i hi
  have hl:i<v.toList.length:=by simpa using hi
  unfold Cd at h1
  rw [List.getD_eq_getElem?_getD,List.getElem?_eq_getElem hl,Option.getD_some] at h1
  rw [List.getElem?_eq_getElem hl,h1]
  simp [hi]
 ·rw [List.getElem?_eq_none (by simpa using hi),List.getElem?_eq_none (by simpa using hi)]
theorem Vh {d e:Vector Bool 1440}{f g:Nat→Bool}(hd : ∀ i,i<1440→Cd d i false=f i)(he : ∀ i,i<1440→Cd e i false=g i) :
  ∃ v,Dc (fun j _=>fun o=>Cj e j o) 0 (List.range 1440) d=.ok v ∧ ∀ i,i<1440→Cd v i false=(f i && !g i):=by
 have key : ∀ (n m:Nat) (v:Vector Bool 1440),m+n=1440→(∀ i,i<1440→Cd v i false=if i<m then(f i && !g i) else f i) →
   ∃ v',Dc (fun j (_:Nat)=>fun o=>Cj e j o) m (List.range' m n) v=.ok v' ∧ ∀ i,i<1440→Cd v' i false=(f i && !g i):=by
  intro n
  induction n with
  | zero=>intro m v hm hv; exact⟨v,rfl,fun i hi=>by rw [hv i hi,if_pos (by omega)]⟩
  | succ n ih=>
   intro m v hm hv
   rw [List.range'_succ,F1]
   have e1:Cj e m v=.ok (I9 v m (f m && !g m)):=by
    unfold Cj H5
    rw [hv m (by omega),if_neg (by omega),he m (by omega)]
    rfl
   rw [e1,R.ok_bind]
   refine ih (m+1) _ (by omega) fun i hi=>?_
   rw [R4 _ _ _ _ (by omega),hv i hi]
   by_cases hmi:m=i
   ·subst hmi; simp
   ·rw [if_neg hmi]
    by_cases h1:i<m
    ·rw [if_pos h1,if_pos (by omega)]
    ·rw [if_neg h1,if_neg (by omega)]
 have:=key 1440 0 d rfl (fun i hi=>by rw [if_neg (by omega)]; exact hd i hi)
 rwa [← List.range_eq_range'] at this
end Go.Am
namespace Go.Am
open Go
set_option linter.unusedVariables false
set_option linter.unusedSimpArgs false
set_option maxRecDepth 100000
def sp (a b:Nat):Span:={ From:=(a:Int),To:=(b:Int) }
def Ez:Nat→List Bool→Option Nat→List Span
 | _,[],none=>[]
 | k,[],some f=>[sp f k]
 | k,true::l,none=>Ez (k+1) l (some k)
 | k,true::l,some f=>Ez (k+1) l (some f)
 | k,false::l,none=>Ez (k+1) l none
 | k,false::l,some f=>sp f k::Ez (k+1) l none
theorem Acj {n:Nat}(h:n<4000):IntKind.wrap .i64 ((n:Int)+1)=((n+1:Nat):Int):=by rw [Tp (by omega) (by omega)]; simp
def tw (l:List Bool):Nat:=(l.takeWhile id).length
theorem Sn : ∀ (l:List Bool) (k f:Nat),Ez k l (some f)=sp f (k+tw l)::Ez (k+tw l+1) (l.drop (tw l+1)) none
 | [],k,f=>by simp [Ez,tw]
 | true::l,k,f=>by
  have:=Sn l (k+1) f
  have e:tw (true::l)=tw l+1:=by simp [tw]
  rw [e,Ez,this]
  simp only [List.drop_succ_cons]
  rw [show k+1+tw l=k+(tw l+1) by omega]
 | false::l,k,f=>by simp [Ez,tw]
def Jw {α σ:Type}(b:α→σ→R σ):List α→σ→R σ
 | [],s=>.ok s
 | a::l,s=>(b a s).bind fun s'=>Jw b l s'
section
variable {σ:Type} {v:Vector Bool 1440}
theorem Yz {k:Nat}(h:k<1440):v.toList[k]? = some (Cd v k false):=by
 have hl:k<v.toList.length:=by simpa using h
 rw [List.getElem?_eq_getElem hl]
 simp [Cd,List.getD,List.getElem?_eq_getElem hl]
theorem Un {k:Nat}(h:k<1440):v.toList.drop k=Cd v k false::v.toList.drop (k+1):=by
 have hl:k<v.toList.length:=by simpa using h
 rw [List.drop_eq_getElem_cons hl]
 congr 1
 have:=Yz (v:=v) h
 rw [List.getElem?_eq_getElem hl] at this
 exact Option.some.inj this
theorem Vz (s:σ) : ∀ (n m:Nat),m+n=1440→loop (Ia fun vto s1=>Bi (σ_:=σ) v vto s1) ((m:Int),s)=.ok (((m+tw (v.toList.drop m):Nat):Int),s)
 | 0,m,h=>by
  obtain rfl:m=1440:=by omega
  rw [Jo]
  have e:(Ia fun vto s1=>Bi (σ_:=σ) v vto s1) (((1440:Nat):Int),s)=.ok (.inr (((1440:Nat):Int),s)):=by
   show Bi _ _ _=_
   unfold Bi
   simp
  rw [e]
  have:v.toList.drop 1440=[]:=List.drop_eq_nil_of_le (by simp)
  simp [this,tw]
 | n+1,m,h=>by
  rw [Jo,Un (by omega)]
  have hb:(Ia fun vto s1=>Bi (σ_:=σ) v vto s1) ((m:Int),s)=if Cd v m false then .ok (.inl (((m+1:Nat):Int),s)) else .ok (.inr ((m:Int),s)):=by
   show Bi _ _ _=_
   unfold Bi
   have h1:decide ((m:Int)<1440)=true:=by simp; omega
   rw [h1,if_pos rfl,if_pos ⟨by omega,by omega⟩,Wt (by omega)]
   simp
  rw [hb]
  cases hq:Cd v m false with
  | true=>
   simp only [if_true,R.ok_bind]
   rw [Vz s n (m+1) (by omega)]
   have:tw (true::v.toList.drop (m+1))=tw (v.toList.drop (m+1))+1:=by simp [tw]
   rw [this]
   congr 3; omega
  | false=>simp [tw]
theorem X1 (b:Span→σ→R σ) : ∀ (n k:Nat) (s:σ),1441 - k≤n→k≤1441→loop (Ia fun vfrom s=>A2 v b vfrom s) ((k:Int),s)=Jw b (Ez k (v.toList.drop k) none) s:=by
 intro n
 induction n with
 | zero=>
  intro k s hn hk
  obtain rfl:k=1441:=by omega
  rw [Jo]
  have e:(Ia fun vfrom s=>A2 v b vfrom s) (((1441:Nat):Int),s)=.ok (.inr s):=by
   show A2 _ _ _ _=_
   unfold A2
   rw [if_neg (by omega)]
  rw [e]
  have:v.toList.drop 1441=[]:=List.drop_eq_nil_of_le (by simp)
  simp [this,Ez,Jw]
 | succ n ih=>
  intro k s hn hk
  by_cases h40:k<1440
  ·rw [Jo,Un h40]
   have hb:(Ia fun vfrom s=>A2 v b vfrom s) ((k:Int),s)=if Cd v k false then(b (sp k (k+1+tw (v.toList.drop (k+1)))) s).bind fun s3=>.ok (.inl (((k+1+tw (v.toList.drop (k+1))+1:Nat):Int),s3)) else .ok (.inl (((k+1:Nat):Int),s)):=by
    show A2 _ _ _ _=_
    unfold A2
    rw [if_pos (by omega),if_pos ⟨by omega,by omega⟩,Wt (by omega)]
    simp only [Int.toNat_natCast]
    rw [Vz s (1440 - (k+1)) (k+1) (by omega)]
    have htw:tw (v.toList.drop (k+1))≤1440:=by
     unfold tw
     have h1:=(List.takeWhile_sublist (p:=id) (l:=v.toList.drop (k+1))).length_le
     have h2:(v.toList.drop (k+1)).length=1440 - (k+1):=by simp
     omega
    by_cases hq:Cd v k false=true
    case neg=>simp [hq]
    case pos=>
     rw [if_pos hq,if_pos hq,R.ok_bind]
     show Da _ _ _ _=_
     unfold Da
     rw [Acj (by omega)]
     rfl
   rw [hb]
   cases hq:Cd v k false with
   | false=>
    simp only [Bool.false_eq_true,if_false,R.ok_bind]
    rw [ih (k+1) s (by omega) (by omega)]
    rfl
   | true=>
    simp only [if_true]
    rw [show Ez k (true::v.toList.drop (k+1)) none=Ez (k+1) (v.toList.drop (k+1)) (some k) from rfl,Sn,Jw,R.bind_assoc]
    cases hbb:b (sp k (k+1+tw (v.toList.drop (k+1)))) s with
    | bad=>rfl
    | pan p=>rfl
    | ok s3=>
     simp only [R.ok_bind]
     have htw:k+1+tw (v.toList.drop (k+1))≤1440:=by
      unfold tw
      have h1:=(List.takeWhile_sublist (p:=id) (l:=v.toList.drop (k+1))).length_le
      have h2:(v.toList.drop (k+1)).length=1440 - (k+1):=by simp
      omega
     rw [ih _ s3 (by omega) (by omega)]
     congr 2
     rw [List.drop_drop]
     congr 1
  ·rw [Jo]
   have e:(Ia fun vfrom s=>A2 v b vfrom s) ((k:Int),s)=.ok (.inr s):=by
    show A2 _ _ _ _=_
    unfold A2
    rw [if_neg (by omega)]
   rw [e]
   have:v.toList.drop k=[]:=List.drop_eq_nil_of_le (by simp; omega)
   simp [this,Ez,Jw]
theorem Wv (b:Span→σ→R σ)(s:σ):Du v b s=Jw b (Ez 0 v.toList none) s:=by
 unfold Du
 have:=X1 (v:=v) b 1441 0 s (by omega) (by omega)
 rw [show(0:Int)=((0:Nat):Int) from rfl,this]
 show(Jw b _ s).bind (fun s4=>Db s4)=_
 simp [Db]
end
theorem La : ∀ (l:List Bool) (k:Nat) (o:Option Nat),(Ez k l o).length≤l.length+1
 | [],k,none=>by simp [Ez]
 | [],k,some f=>by simp [Ez]
 | true::l,k,none=>by rw [Ez]; have:=La l (k+1) (some k); simp; omega
 | true::l,k,some f=>by rw [Ez]; have:=La l (k+1) (some f); simp; omega
 | false::l,k,none=>by rw [Ez]; have:=La l (k+1) none; simp; omega
 | false::l,k,some f=>by rw [Ez]; have:=La l (k+1) none; simp at this ⊢; omega
theorem Sm {α:Type}{b:α→List α→R (List α)}{c:Nat}(hb : ∀ a s,(s.length+1) * c≤Do→b a s=.ok (s++[a])) : ∀ (l s:List α),(s.length+l.length) * c≤Do→Jw b l s=.ok (s++l)
 | [],s,_=>by simp [Jw]
 | a::l,s,h=>by
  have h1:(s.length+1) * c≤Do:=Nat.le_trans (Nat.mul_le_mul_right _ (by simp)) h
  rw [Jw,hb a s h1,R.ok_bind,Sm hb l (s++[a]) (by simpa [Nat.add_assoc,Nat.add_comm 1] using h)]
  simp
theorem S3 (v:Vector Bool 1440):Ca v=.ok (Ez 0 v.toList none):=by
 unfold Ca Cv
 rw [Wv,Sm (c:=16) (fun a s h=>by
  show R.np (Ci a s)=_
  unfold Ci
  rw [if_pos (by simpa using h)]; rfl) _ _ (by
   have:=La v.toList 0 none
   have h2:v.toList.length=1440:=by simp
   simp [Do]; omega)]
 rfl
def Gt (a b:List Span):List Span:=Ez 0 ((List.range 1440).map fun i=>Ph a i && !Ph b i) none
theorem Va (a b:List Span):Ie a b=.ok (Gt a b):=by
 obtain⟨d,h1,h2⟩:=Of a
 obtain⟨e,h3,h4⟩:=Of b
 obtain⟨w,h5,h6⟩:=Vh h2 h4
 unfold Ie Gu
 rw [h1,h3,R.ok_bind,R.ok_bind,h5]
 simp only [R.ok_bind,Eb,S3]
 rw [Wr h6]
 rfl
end Go.Am
namespace Go.Am
open Go
set_option linter.unusedVariables false
set_option linter.unusedSimpArgs false
set_option maxRecDepth 100000
def Qb (s:Segment):List Span:=if s.Open.length=0 then [{ From:=0,To:=1440 }] else s.Open
def Gv (a:Airspace)(n:Int):Option (Segment×Volume):=
 if 0≤n then(match a.Segments[n.toNat]? with
  | none=>none
  | some s=>if 0≤s.Volume then(match a.Volumes[s.Volume.toNat]? with | none=>none | some v=>some (s,v)) else none) else none
def Te (p:Segment×Volume):List Span:=Gt (Qb p.1) p.2.Closed
def Gn (a:Airspace)(n:Int):Option (List Span):=(Gv a n).map Te
def Ka {α:Type}:Option (List α)→List α×Int
 | some l=>(l,0)
 | none=>([],1)
def Pj:PV:=⟨86,.unit⟩
theorem Lv {α:Type}(F:R α)(els:PV→R α):(R.pan Pj).catch' (Cb 86 F els)=F:=Er
theorem Mz {α:Type}{l:List α}{n:Int}{x:α}(h0:0≤n)(h:l[n.toNat]? = some x):Hm l n=.ok x:=by unfold Hm; rw [if_pos h0,h]
theorem P6 {α:Type}{l:List α}{n:Int}(h:(l.length:Int)≤n):l[n.toNat]? = none:=List.getElem?_eq_none (by omega)
theorem P0 {α:Type}{l:List α}{n:Int}(h0:0≤n)(h:n<(l.length:Int)) : ∃ x,l[n.toNat]? = some x:=⟨_,List.getElem?_eq_getElem (by omega)⟩
theorem Ot {a:Airspace}{n:Int}(h:n<0):Gv a n=none:=by unfold Gv; rw [if_neg (by omega)]
theorem Sv {a:Airspace}{n:Int}(h0:0≤n)(h:(a.Segments.length:Int)≤n):Gv a n=none:=by unfold Gv; rw [if_pos h0,P6 h]
theorem Uh {a:Airspace}{n:Int}{s:Segment}(h0:0≤n)(hs:a.Segments[n.toNat]? = some s):Gv a n=if 0≤s.Volume then(match a.Volumes[s.Volume.toNat]? with | none=>none | some v=>some (s,v)) else none:=by
 unfold Gv; rw [if_pos h0,hs]
theorem Qn {a:Airspace}{n:Int}{p:Segment×Volume}(h:Gv a n=some p):0≤n∧a.Segments[n.toNat]? = some p.1∧0≤p.1.Volume∧a.Volumes[p.1.Volume.toNat]? = some p.2:=by
 unfold Gv at h
 split at h
 ·rename_i h0
  split at h
  ·cases h
  ·rename_i s hs
   split at h
   ·rename_i hv
    split at h
    ·cases h
    ·rename_i v hvv
     cases h
     exact⟨h0,hs,hv,hvv⟩
   ·cases h
 ·cases h
theorem Abt (s:Segment):(if((s.Open.length:Int)==0)=true then([{ From:=0,To:=1440 }]:List Span) else s.Open)=Qb s:=by
 unfold Qb
 by_cases h:s.Open.length=0
 ·simp [h]
 ·rw [if_neg h,if_neg (by simpa using h)]
theorem Ab3 (a:Airspace)(s:Segment)(l:List Span)(v:Volume)(h0:0≤s.Volume)(hv:a.Volumes[s.Volume.toNat]? = some v):Dt a s l=.ok (Gt l v.Closed):=by
 unfold Dt
 rw [Mz h0 hv,R.ok_bind,Va]
 rfl
theorem M6 (a:Airspace)(n:Int):Dk a n=match Gn a n with | some l=>.ok l | none=>.pan Pj:=by
 unfold Dk Gn
 by_cases h0:0≤n
 case neg=>rw [Ot (by omega),if_pos (by simp; omega)]; rfl
 by_cases h1:n<(a.Segments.length:Int)
 case neg=>rw [Sv h0 (by omega),if_pos (by simp; omega)]; rfl
 obtain⟨s,hs⟩:=P0 h0 h1
 rw [if_neg (by simp; omega),Mz h0 hs,R.ok_bind,Uh h0 hs]
 by_cases h2:0≤s.Volume
 case neg=>rw [if_pos (by simp; omega),if_neg h2]; rfl
 by_cases h3:s.Volume<(a.Volumes.length:Int)
 case neg=>rw [if_pos (by simp; omega),if_pos h2,P6 (by omega)]; rfl
 obtain⟨v,hv⟩:=P0 h2 h3
 rw [if_neg (by simp; omega),if_pos h2,hv]
 simp only [Option.map_some,Te]
 rw [← Abt]
 split <;> rw [Ab3 a s _ v h2 hv] <;> simp_all
theorem Nc (a:Airspace)(n:Int):Cq a n=.ok (Ka (Gn a n)):=by
 unfold Cq Ed
 rw [M6]
 cases Gn a n with
 | some l=>rfl
 | none=>exact Lv _ _
def Fm (a:Airspace)(n:Int):Option Leg:=(Gv a n).map fun p=>{ Segment:=n,Volume:=p.1.Volume,Length:=p.1.Length,Minutes:=Te p }
def Gq {α β:Type}(f:α→Option β):List α→Option (List β)
 | []=>some []
 | x::l=>match f x,Gq f l with
  | some y,some r=>some (y::r)
  | _,_=>none
def Fi (a:Airspace)(r:Int):Option (List Leg):=
 if 0≤r then(match a.Routes[r.toNat]? with | none=>none | some rt=>Gq (Fm a) rt.Segments) else none
theorem Aax {σ:Type}(a:Airspace)(b:Leg→σ→R σ)(n:Int)(s:σ):Df a b n s=match Fm a n with | some g=>b g s | none=>.pan Pj:=by
 unfold Df
 rw [M6]
 unfold Gn Fm
 cases hs:Gv a n with
 | none=>rfl
 | some p=>
  obtain⟨h0,h1,h2,h3⟩:=Qn hs
  simp only [Option.map_some,R.ok_bind]
  rw [Mz h0 h1,R.ok_bind,R.bind_ok]
theorem Sw {σ:Type}(a:Airspace)(b:Leg→σ→R σ)(h:Leg→σ→σ)(I:σ→Nat→Prop)(hI : ∀ g s n,I s (n+1)→I (h g s) n∧b g s=.ok (h g s)) : ∀ (l:List Int) (k:Nat) (s:σ),I s l.length →
  Dc (fun _ a1=>fun s=>Df a b a1 s) k l s=match Gq (Fm a) l with | some ls=>.ok (ls.foldl (fun s g=>h g s) s) | none=>.pan Pj
 | [],k,s,_=>rfl
 | n::l,k,s,hs=>by
  rw [F1,Aax]
  unfold Gq
  cases hg:Fm a n with
  | none=>rfl
  | some g=>
   obtain⟨h1,h2⟩:=hI g s l.length hs
   simp only [h2,R.ok_bind]
   rw [Sw a b h I hI l (k+1) _ h1]
   cases Gq (Fm a) l <;> rfl
theorem Sg {σ:Type}(a:Airspace)(r:Int)(b:Leg→σ→R σ)(h:Leg→σ→σ)(I:σ→Nat→Prop)(hI : ∀ g s n,I s (n+1)→I (h g s) n∧b g s=.ok (h g s))(s:σ)(hs : ∀ rt,a.Routes[r.toNat]? = some rt→I s rt.Segments.length) :
  D3 r a b s=match Fi a r with | some ls=>.ok (ls.foldl (fun s g=>h g s) s) | none=>.pan Pj:=by
 unfold D3 Fi
 by_cases h0:0≤r
 case neg=>rw [if_pos (by simp; omega),if_neg h0]; rfl
 rw [if_pos h0]
 by_cases h1:r<(a.Routes.length:Int)
 case neg=>rw [if_pos (by simp; omega),P6 (by omega)]; rfl
 obtain⟨rt,hrt⟩:=P0 h0 h1
 rw [if_neg (by simp; omega),Mz h0 hrt,R.ok_bind,hrt,Sw a b h I hI _ 0 s (hs rt hrt)]
 simp only
 cases Gq (Fm a) rt.Segments <;> rfl
structure Small (a:Airspace):Prop where
 seg:a.Segments.length≤1048576
 vol:a.Volumes.length≤1048576
 rt:a.Routes.length≤1048576
 rs : ∀ r ∈ a.Routes,r.Segments.length≤1048576
theorem Qg {α:Type} : ∀ (l s:List α),l.foldl (fun s g=>s++[g]) s=s++l
 | [],s=>by simp
 | a::l,s=>by rw [List.foldl_cons,Qg l]; simp
theorem Abc (a:Airspace)(r:Int)(hs:Small a):Hn a r=.ok (Ka (Fi a r)):=by
 unfold Hn H2
 have:=Sg a r (fun a1 z_=>R.np ((fun l=>Ev a1 l) z_)) (fun g s=>s++[g]) (fun s n=>s.length+n≤1048576) (fun g s n hn=>by
  refine⟨by simp; omega,?_⟩
  show R.np (Ev g s)=_
  unfold Ev
  rw [if_pos (by simp [Do]; omega)]
  rfl) [] (fun rt h=>by have:=hs.rs rt (List.mem_of_getElem? h); simpa using this)
 simp only [Ej,R.ok_bind,this]
 cases Fi a r with
 | some l=>
  show R.ok (l.foldl (fun s g=>s++[g]) [],(0:Int))=R.ok (l,0)
  rw [Qg]; rfl
 | none=>exact Lv _ _
def Ef (ls:List Leg):Bool:=ls.any fun g=>(g.Minutes.length:Int)==0
def Ji (a:Airspace):List Route→Nat→List Int→Option (List Int)
 | [],_,x=>some x
 | _::rs,k,x=>match Fi a (k:Int) with
  | none=>none
  | some ls=>Ji a rs (k+1) (if Ef ls then x++[(k:Int)] else x)
def blk (a:Airspace):Option (List Int):=Ji a a.Routes 0 []
theorem Y6 (ls:List Leg)(o:Bool):ls.foldl (fun s g=>s||((g.Minutes.length:Int)==0)) o=(o||Ef ls):=by
 induction ls generalizing o with
 | nil=>simp [Ef]
 | cons g ls ih=>rw [List.foldl_cons,ih]; simp [Ef,Bool.or_assoc]
theorem Aao {b:Bool}{x:List Int}{k:Nat}{y:Int}(hx:x.length≤k):(if b=true then x++[y] else x).length≤k+1:=by
 split
 ·simp; omega
 ·omega
theorem Sj (a:Airspace) : ∀ (rs:List Route) (k:Nat) (x:List Int),x.length≤k→k+rs.length≤1048576→Dc (fun j _=>fun x1=>Dg a j x1) k rs x=match Ji a rs k x with | some l=>.ok l | none=>.pan Pj
 | [],k,x,_,_=>rfl
 | rt::rs,k,x,hx,hk=>by
  simp only [List.length_cons] at hk
  rw [F1]
  unfold Ji
  have e:Dg a k x=match Fi a (k:Int) with | some ls=>.ok (if Ef ls then x++[(k:Int)] else x) | none=>.pan Pj:=by
   unfold Dg
   have:=Sg a (k:Int) (fun a2 z_=>R.np ((fun o=>Fu a2 o) z_)) (fun g s=>s||((g.Minutes.length:Int)==0)) (fun _ _=>True) (fun g s n _=>⟨trivial,rfl⟩) false (fun _ _=>trivial)
   simp only [Ej,R.ok_bind,this]
   cases Fi a (k:Int) with
   | none=>rfl
   | some ls=>
    simp only [R.ok_bind]
    rw [Y6,Bool.false_or]
    cases Ef ls
    ·rfl
    ·simp only [if_true]; rw [if_pos (by simp [Do]; omega)]
  rw [e]
  cases hl:Fi a (k:Int) with
  | none=>rfl
  | some ls=>
   simp only [R.ok_bind]
   exact Sj a rs (k+1) _ (Aao hx) (by omega)
theorem Kv (a:Airspace)(hs:Small a):B0 a=.ok (Ka (blk a)):=by
 unfold B0 F7
 rw [Sj a a.Routes 0 [] (by simp) (by have:=hs.rt; omega)]
 show R.catch' (R.bind (match blk a with | some l=>.ok l | none=>.pan Pj) _) _=_
 cases blk a with
 | some l=>rfl
 | none=>exact Lv _ _
end Go.Am
namespace Go.Am
open Go
set_option linter.unusedVariables false
set_option linter.unusedSimpArgs false
set_option maxRecDepth 100000
def E8 (a:Airspace):List Segment→Nat→Option (List Int)
 | [],_=>some []
 | s::ss,k=>match Gn a (k:Int) with
  | none=>none
  | some l=>(E8 a ss (k+1)).map fun r=>if(l.length:Int) > 0 then s.Volume::r else r
def Ja (nv:Nat)(vs:List Int):List Int:=((List.range nv).filter fun i=>vs.contains ((i:Nat):Int)).map fun i=>((i:Nat):Int)
def Nk (a:Airspace):Option (List Int):=(E8 a a.Segments 0).map (Ja a.Volumes.length)
section
variable {V:Type}
theorem R6 (m:List (Int×V))(k:Int)(v:V):(E1 m k v).map (·.1)=if k ∈ m.map (·.1) then m.map (·.1) else m.map (·.1)++[k]:=by
 induction m with
 | nil=>simp [E1]
 | cons p m ih=>
  rw [E1]
  by_cases h:p.1=k
  ·rw [if_pos (by simpa using h)]
   subst h; simp
  ·rw [if_neg (by simpa using h),List.map_cons,ih]
   have:¬ k=p.1:=fun e=>h e.symm
   by_cases hm:k ∈ m.map (·.1)
   ·rw [if_pos hm,if_pos (by simp only [List.map_cons,List.mem_cons]; exact .inr hm)]; rfl
   ·rw [if_neg hm,if_neg (by simp only [List.map_cons,List.mem_cons,not_or]; exact⟨this,hm⟩)]; rfl
theorem Sa (v:V) : ∀ (vs:List Int) (m:List (Int×V)),(m.map (·.1)).Nodup→((vs.foldl (fun m x=>E1 m x v) m).map (·.1)).Nodup ∧ ∀ x,x ∈ (vs.foldl (fun m x=>E1 m x v) m).map (·.1)↔x ∈ m.map (·.1)∨x ∈ vs
 | [],m,h=>⟨h,fun x=>by simp⟩
 | y::vs,m,h=>by
  rw [List.foldl_cons]
  have h1:((E1 m y v).map (·.1)).Nodup:=by
   rw [R6]
   split
   ·exact h
   ·rename_i hy
    exact List.nodup_append.2 ⟨h,by simp,fun a ha b hb=>by simp at hb; subst hb; exact fun e=>hy (e ▸ ha)⟩
  obtain⟨k1,k2⟩:=Sa v vs (E1 m y v) h1
  refine⟨k1,fun x=>?_⟩
  rw [k2 x,R6]
  split
  ·rename_i hy
   simp only [List.mem_cons]
   constructor
   ·rintro(h | h)
    ·exact .inl h
    ·exact .inr (.inr h)
   ·rintro(h | rfl | h)
    ·exact .inl h
    ·exact .inl hy
    ·exact .inr h
  ·rw [List.mem_append,List.mem_singleton,List.mem_cons,or_assoc]
end
theorem Sl {nv:Nat}{vs:List Int}{x:Int}:x ∈ Ja nv vs↔x ∈ vs∧0≤x∧x<(nv:Int):=by
 unfold Ja
 simp only [List.mem_map,List.mem_filter,List.mem_range,List.contains_iff_mem]
 constructor
 ·rintro⟨i,⟨h1,h2⟩,rfl⟩; exact⟨h2,by omega,by omega⟩
 ·rintro⟨h1,h2,h3⟩; exact⟨x.toNat,⟨by omega,by rwa [Int.toNat_of_nonneg h2]⟩,Int.toNat_of_nonneg h2⟩
theorem Uw (nv:Nat)(vs:List Int):(Ja nv vs).Pairwise (· < ·):=by
 unfold Ja
 refine List.pairwise_map.2 ?_
 refine(List.Pairwise.filter _ List.pairwise_lt_range).imp fun h=>?_
 omega
theorem Vt {vs:List Int}{nv:Nat}(hnv:nv≤1048576)(hv : ∀ x ∈ vs,0≤x∧x<(nv:Int)):Hw (vs.foldl (fun m x=>E1 m x true) [])=.ok (Ja nv vs):=by
 obtain⟨h1,h2⟩:=Sa true vs [] (by simp)
 have hlt:=Uw nv vs
 have hnd:(Ja nv vs).Nodup:=hlt.imp fun h=>Int.ne_of_lt h
 have hperm:((vs.foldl (fun m x=>E1 m x true) []).map (·.1)).Perm (Ja nv vs):=by
  refine(List.perm_ext_iff_of_nodup h1 hnd).2 fun x=>?_
  rw [h2 x,Sl]
  constructor
  ·rintro(h | h)
   ·simp at h
   ·exact⟨h,hv x h⟩
  ·rintro⟨h,_⟩; exact .inr h
 have hlen:(vs.foldl (fun m x=>E1 m x true) []).length≤nv:=by
  have:=hperm.length_eq
  rw [List.length_map] at this
  rw [this]
  unfold Ja
  rw [List.length_map]
  exact Nat.le_trans (List.length_filter_le _ _) (by simp)
 unfold Hw
 rw [if_pos ⟨by omega,List.all_eq_true.2 fun p hp=>by
  have:p.1 ∈ Ja nv vs:=hperm.mem_iff.1 (List.mem_map.2 ⟨p,hp,rfl⟩)
  obtain⟨_,q1,q2⟩:=Sl.1 this
  simp only [Lit.wf,Bool.and_eq_true,decide_eq_true_eq]
  have e1:IntKind.min .i64 = -9223372036854775808:=by decide
  have e2:IntKind.max .i64=9223372036854775807:=by decide
  rw [e1,e2]; omega⟩]
 congr 1
 rw [mergeSort_of_perm_i hperm]
 exact List.mergeSort_of_pairwise (hlt.imp fun h=>by simpa using Int.le_of_lt h)
theorem Zl {a:Airspace}{k:Nat}{s:Segment}{l:List Span}(hs:a.Segments[k]? = some s)(h:Gn a (k:Int)=some l):0≤s.Volume∧s.Volume<(a.Volumes.length:Int):=by
 unfold Gn at h
 cases hp:Gv a (k:Int) with
 | none=>rw [hp] at h; cases h
 | some p=>
  obtain⟨h0,h1,h2,h3⟩:=Qn hp
  rw [Int.toNat_natCast,hs] at h1
  cases h1
  have:=(List.getElem?_eq_some_iff.1 h3).1
  exact⟨h2,by omega⟩
theorem Qp (a:Airspace) : ∀ (ss:List Segment) (k:Nat) (m:List (Int×Bool)),Dc (fun j a1=>fun m=>C3 a j a1 m) k ss m=match E8 a ss k with | some vs=>.ok (vs.foldl (fun m x=>E1 m x true) m) | none=>.pan Pj
 | [],k,m=>rfl
 | s::ss,k,m=>by
  rw [F1]
  unfold E8
  have e:C3 a k s m=match Gn a (k:Int) with | some l=>.ok (if(l.length:Int) > 0 then E1 m s.Volume true else m) | none=>.pan Pj:=by
   unfold C3
   rw [M6]
   cases Gn a (k:Int) with
   | none=>rfl
   | some l=>simp only [R.ok_bind]; split <;> rfl
  rw [e]
  cases Gn a (k:Int) with
  | none=>rfl
  | some l=>
   simp only [R.ok_bind]
   rw [Qp a ss (k+1)]
   cases E8 a ss (k+1) with
   | none=>rfl
   | some vs=>simp only [Option.map_some]; split <;> rfl
theorem V3 (a:Airspace) : ∀ (ss:List Segment) (k:Nat) (vs:List Int),(∀ j s,ss[j]? = some s→a.Segments[k+j]? = some s)→E8 a ss k=some vs→(∀ x ∈ vs,0≤x∧x<(a.Volumes.length:Int)) ∧
  (∀ j s l,ss[j]? = some s→Gn a ((k+j:Nat):Int)=some l→(l.length:Int) > 0→s.Volume ∈ vs)
 | [],k,vs,_,h=>by cases h; exact⟨fun x hx=>(by cases hx),fun j s l h=>by simp at h⟩
 | s::ss,k,vs,hss,h=>by
  unfold E8 at h
  split at h
  ·cases h
  ·rename_i l hl
   cases hr:E8 a ss (k+1) with
   | none=>rw [hr] at h; cases h
   | some r=>
    rw [hr] at h
    simp only [Option.map_some,Option.some.injEq] at h
    obtain⟨i1,i2⟩:=V3 a ss (k+1) r (fun j s h=>by have:=hss (j+1) s (by simpa using h); rwa [show k+1+j=k+(j+1) by omega]) hr
    have hs0:=hss 0 s rfl
    rw [Nat.add_zero] at hs0
    have hv:=Zl hs0 hl
    refine⟨fun x hx=>?_,fun j s' l' hj hl' hpos=>?_⟩
    ·subst h
     split at hx
     ·rcases List.mem_cons.1 hx with rfl | hx
      ·exact hv
      ·exact i1 x hx
     ·exact i1 x hx
    ·subst h
     cases j with
     | zero=>
      have:s=s':=by simpa using hj
      subst this
      rw [Nat.add_zero,hl] at hl'
      cases hl'
      rw [if_pos hpos]; exact List.mem_cons_self ..
     | succ j=>
      have:=i2 j s' l' (by simpa using hj) (by rwa [show k+1+j=k+(j+1) by omega]) hpos
      split
      ·exact List.mem_cons_of_mem _ this
      ·exact this
theorem Lz (a:Airspace)(hs:Small a):Cs a=.ok (Ka (Nk a)):=by
 unfold Cs Fy Nk
 rw [Qp]
 cases hv:E8 a a.Segments 0 with
 | none=>exact Lv _ _
 | some vs=>
  have:=(V3 a a.Segments 0 vs (fun j s h=>by simpa using h) hv).1
  simp only [R.ok_bind,maps_Keys_34,Fg,Vt hs.vol this]
  rfl
theorem W8 (l:List Span):D5 l l=.ok true:=by
 unfold D5
 rw [if_neg (by simp),Uo l 0 (fun j a h=>by
  unfold Ep
  rw [Nat.zero_add,Rj h,R.ok_bind,if_pos (by simp)])]
 rfl
def Ke:Airspace:={ Volumes:=[{ Name:=[],Closed:=[{ From:=150,To:=160 }] },{ Name:=[],Closed:=[{ From:=0,To:=1440 }] }],Sectors:=[],Configs:=[],Segments:=[{ Name:=[],In:=[],Volume:=0,Length:=30,Open:=[{ From:=100,To:=200 }] },{ Name:=[],In:=[],Volume:=1,Length:=40,Open:=[] }],Routes:=[{ Name:=[],A:=[],B:=[],From:=0,To:=0,Names:=[],Segments:=[0] },{ Name:=[],A:=[],B:=[],From:=0,To:=0,Names:=[],Segments:=[0,1] },{ Name:=[],A:=[],B:=[],From:=0,To:=0,Names:=[],Segments:=[] }],Airports:=[],Classes:=[],Rules:=[] }
def Aab:Airspace:={ Volumes:=[],Sectors:=[],Configs:=[],Segments:=[],Routes:=[],Airports:=[],Classes:=[],Rules:=[] }
theorem Ov:Small Ke:=⟨by decide,by decide,by decide,by decide⟩
theorem Rg:Small Aab:=⟨by decide,by decide,by decide,fun r hr=>by cases hr⟩
theorem Abo:Gt [{ From:=100,To:=200 }] [{ From:=150,To:=160 }]=[{ From:=100,To:=150 },{ From:=160,To:=200 }]:=by decide +kernel
theorem min2:Gt [{ From:=0,To:=1440 }] [{ From:=0,To:=1440 }]=[]:=by decide +kernel
theorem m0:Gn Ke 0=some [{ From:=100,To:=150 },{ From:=160,To:=200 }]:=by
 show some (Gt _ _)=_
 rw [show Qb _=[{ From:=100,To:=200 }] from rfl]
 exact congrArg some Abo
theorem m1:Gn Ke 1=some []:=by
 show some (Gt _ _)=_
 rw [show Qb _=[{ From:=0,To:=1440 }] from rfl]
 exact congrArg some min2
def Y3:Leg:={ Segment:=0,Volume:=0,Length:=30,Minutes:=[{ From:=100,To:=150 },{ From:=160,To:=200 }] }
def Ab1:Leg:={ Segment:=1,Volume:=1,Length:=40,Minutes:=[] }
theorem g0:Fm Ke 0=some Y3:=by
 show some ({ Segment:=0,Volume:=0,Length:=30,Minutes:=Gt _ _ }:Leg)=_
 rw [show Qb _=[{ From:=100,To:=200 }] from rfl,show Gt _ _=_ from Abo]; rfl
theorem g1:Fm Ke 1=some Ab1:=by
 show some ({ Segment:=1,Volume:=1,Length:=40,Minutes:=Gt _ _ }:Leg)=_
 rw [show Qb _=[{ From:=0,To:=1440 }] from rfl,show Gt _ _=_ from min2]; rfl
theorem l0:Fi Ke 0=some [Y3]:=by
 show Gq (Fm Ke) [0]=_
 simp [Gq,g0]
theorem l1:Fi Ke 1=some [Y3,Ab1]:=by
 show Gq (Fm Ke) [0,1]=_
 simp [Gq,g0,g1]
theorem l2:Fi Ke 2=some []:=rfl
theorem p0:Nk Ke=some [0]:=by
 unfold Nk
 have:E8 Ke Ke.Segments 0=some [0]:=by
  show E8 Ke [_,_] 0=_
  simp only [E8,show((0:Nat):Int)=0 from rfl,show((0+1:Nat):Int)=1 from rfl,m0,m1]
  rfl
 rw [this]; decide
theorem bl0:blk Ke=some [1]:=by
 unfold blk
 show Ji Ke [_,_,_] 0 []=_
 simp only [Ji,show((0:Nat):Int)=0 from rfl,show((0+1:Nat):Int)=1 from rfl,show((0+1+1:Nat):Int)=2 from rfl,l0,l1,l2]
 rfl
theorem Aap:Jg=.ok true:=by
 unfold Jg
 have hsmp:I3=.ok Ke:=rfl
 rw [hsmp]
 simp only [R.ok_bind]
 rw [show({ Volumes:=[],Sectors:=[],Configs:=[],Segments:=[],Routes:=[],Airports:=[],Classes:=[],Rules:=[] }:Airspace)=Aab from rfl]
 simp only [Nc,Abc _ _ Ov,Lz _ Ov,Lz _ Rg,Kv _ Ov,Kv _ Rg,R.ok_bind,m0,l1,l2,p0,bl0]
 decide +kernel
end Go.Am
namespace Go.Am
open Go
set_option linter.unusedVariables false
set_option linter.unusedSimpArgs false
set_option maxRecDepth 100000
theorem Zr {a:Airspace}(h:J3.bulk a≤1048576):Small a:=by
 have hb:((Bs 2 Jt).bulk a.Volumes+((Bs 5 K9).bulk a.Sectors+((Bs 3 K8).bulk a.Configs+((Bs 5 Ip).bulk a.Segments+((Bs 7 I6).bulk a.Routes+((Bs 2 Jp).bulk a.Airports+((Bs 4 Mb).bulk a.Classes+((Bs 8 O3).bulk a.Rules+(0)))))))))+1≤1048576:=h
 have h1:=Pa (st:=2) (T:=Jt) (fun a=>Nat.le_add_left _ _) a.Volumes
 have h2:=Pa (st:=5) (T:=Ip) (fun a=>Nat.le_add_left _ _) a.Segments
 have h3:=Pa (st:=7) (T:=I6) (fun a=>Nat.le_add_left _ _) a.Routes
 refine⟨by omega,by omega,by omega,fun r hr=>?_⟩
 have h4:=Aaq (st:=7) (T:=I6) hr
 have h5:(Bx.bulk r.Name+(Bx.bulk r.A+(Bx.bulk r.B+((Bd .i64).bulk r.From+((Bd .i64).bulk r.To+((Bs 1 Bx).bulk r.Names+((Bs 1 (Bd .i64)).bulk r.Segments+(0))))))))+1=I6.bulk r:=rfl
 have h6:=Pa (st:=1) (T:=Bd .i64) (fun n=>Yx n) r.Segments
 omega
theorem Y1 (a:Airspace) : ∃ b,J5 a=.ok b:=by
 have key : ∀ {α:Type} {body:Nat→α→Unit→R (Unit ⊕ Bool)} {K:R Bool} (l:List α),(∀ j x,∃ p:Bool,body j x ()=if p then .ok (.inr false) else .ok (.inl ()))→(∃ b,K=.ok b) → ∃ b,(each body 0 l ()).bind (D9 (fun _=>K) (fun r=>.ok r))=.ok b:=by
  intro α body K l hb hK
  have : ∀ (l:List α) (k:Nat),each body k l ()=.ok (.inl ())∨each body k l ()=.ok (.inr false):=by
   intro l
   induction l with
   | nil=>intro k; exact .inl rfl
   | cons x l ih=>
    intro k
    rw [J2]
    obtain⟨p,hp⟩:=hb k x
    rw [hp]
    cases p
    ·exact ih (k+1)
    ·exact .inr rfl
  rcases this l 0 with h | h
  ·rw [h]; exact hK
  ·rw [h]; exact⟨false,rfl⟩
 have one : ∀ (p:Bool),∃ q:Bool,(if p=true then(R.ok (Sum.inr false):R (Unit ⊕ Bool)) else .ok (.inl ()))=if q=true then .ok (.inr false) else .ok (.inl ()):=fun p=>⟨p,rfl⟩
 have onep : ∀ (p:Prop) [Decidable p],∃ q:Bool,(if p then(R.ok (Sum.inr false):R (Unit ⊕ Bool)) else .ok (.inl ()))=if q=true then .ok (.inr false) else .ok (.inl ()):=fun p _=>⟨decide p,by simp⟩
 unfold J5
 split
 ·exact⟨false,rfl⟩
 ·refine key _ (fun _ _=>onep _) (key _ (fun _ _=>one _) (key _ (fun _ _=>one _) (key _ (fun _ _=>onep _) (key _ (fun _ _=>one _) (key _ (fun _ _=>onep _) ⟨true,rfl⟩)))))
end Go.Am
namespace Go.Am
open Go
set_option linter.unusedVariables false
set_option linter.unusedSimpArgs false
set_option maxRecDepth 100000
def U5:List Span:=[{ From:=0,To:=1440 }]
def Na:List Span:=[({ From:=700,To:=1440 }:Span),({ From:=0,To:=700 }:Span)]
def Cg:Volume:={ An with Closed:=Na }
def C2 (s:Segment):Segment:={ s with Open:=[] }
def Bq (a:Airspace)(v:List Volume)(s:List Segment):Airspace:={ Volumes:=v,Sectors:=a.Sectors,Configs:=a.Configs,Segments:=s,Routes:=a.Routes,Airports:=a.Airports,Classes:=a.Classes,Rules:=a.Rules }
theorem Si:Gt U5 []=U5:=by decide +kernel
theorem X4:Ez 0 ((List.range 1440).map fun _=>false) none=[]:=by decide +kernel
theorem M5 (l:List Span):Gt l Na=[]:=by
 unfold Gt
 have:((List.range 1440).map fun i=>Ph l i && !Ph Na i)=(List.range 1440).map fun _=>false:=by
  refine List.map_congr_left fun i hi=>?_
  have hi':=List.mem_range.1 hi
  have:Ph Na i=true:=by
   simp only [Ph,Na,X5,List.any_cons,List.any_nil,Bool.or_false,Bool.or_eq_true,Bool.and_eq_true,decide_eq_true_eq]
   omega
  rw [this]
  simp
 rw [this,X4]
theorem Aa9 (s:Segment):Qb (C2 s)=U5:=rfl
theorem Ou {a:Airspace}{v:Volume}{n k:Nat}{ss:List Segment}{s:Segment}(hs:ss[k]? = some s):Gv (Bq a (List.replicate n v) ss) (k:Int)=if 0≤s.Volume∧s.Volume<(n:Int) then some (s,v) else none:=by
 rw [Uh (s:=s) (by omega) (by simpa [Bq] using hs)]
 show(if 0≤s.Volume then(match (List.replicate n v)[s.Volume.toNat]? with | none=>none | some v=>some (s,v)) else none)=_
 rw [List.getElem?_replicate]
 by_cases h:0≤s.Volume
 ·rw [if_pos h]
  by_cases h2:s.Volume<(n:Int)
  ·rw [if_pos (by omega),if_pos ⟨h,h2⟩]
  ·rw [if_neg (by omega),if_neg (by omega)]
 ·rw [if_neg h,if_neg (by omega)]
theorem Py {a:Airspace}{v:Volume}{n k:Nat}{ss:List Segment}{s:Segment}(hs:ss[k]? = some s):Gn (Bq a (List.replicate n v) ss) (k:Int)=if 0≤s.Volume∧s.Volume<(n:Int) then some (Gt (Qb s) v.Closed) else none:=by
 unfold Gn
 rw [Ou hs]
 split <;> rfl
theorem Aal (a:Airspace)(n:Nat)(i:Int) :
  (Fm (Bq a (List.replicate n An) (a.Segments.map C2)) i=none∧Fm (Bq a (List.replicate n Cg) a.Segments) i=none) ∨
  ∃ g h,Fm (Bq a (List.replicate n An) (a.Segments.map C2)) i=some g∧Fm (Bq a (List.replicate n Cg) a.Segments) i=some h∧g.Minutes=U5∧h.Minutes=[]:=by
 unfold Fm
 by_cases h0:0≤i
 ·obtain⟨k,rfl⟩ : ∃ k:Nat,i=k:=⟨i.toNat,by omega⟩
  cases hs:a.Segments[k]? with
  | none=>
   left
   constructor
   ·unfold Gv
    rw [if_pos h0]
    show Option.map _ (match (a.Segments.map C2)[((k:Int)).toNat]? with | none=>none | some s=>_)=none
    rw [List.getElem?_map,Int.toNat_natCast,hs]
    rfl
   ·unfold Gv
    rw [if_pos h0]
    show Option.map _ (match (a.Segments)[((k:Int)).toNat]? with | none=>none | some s=>_)=none
    rw [Int.toNat_natCast,hs]
    rfl
  | some s=>
   have hs':(a.Segments.map C2)[k]? = some (C2 s):=by rw [List.getElem?_map,hs]; rfl
   rw [Ou hs',Ou hs]
   by_cases hk:0≤s.Volume∧s.Volume<(n:Int)
   ·right
    rw [if_pos hk,if_pos (show 0≤(C2 s).Volume∧(C2 s).Volume<(n:Int) from hk)]
    exact⟨_,_,rfl,rfl,Si,M5 _⟩
   ·left
    rw [if_neg hk,if_neg (show ¬ (0≤(C2 s).Volume∧(C2 s).Volume<(n:Int)) from hk)]
    exact⟨rfl,rfl⟩
 ·left
  rw [Ot (by omega),Ot (by omega)]
  exact⟨rfl,rfl⟩
theorem Vw {f g:Int→Option Leg}(h : ∀ i,(f i=none∧g i=none) ∨ ∃ x y,f i=some x∧g i=some y∧x.Minutes=U5∧y.Minutes=[]) : ∀ l:List Int,
  (Gq f l=none∧Gq g l=none) ∨ ∃ xs ys,Gq f l=some xs∧Gq g l=some ys∧Ef xs=false∧Ef ys=decide (0<l.length)
 | []=>.inr ⟨[],[],rfl,rfl,rfl,rfl⟩
 | i::l=>by
  rcases h i with⟨h1,h2⟩ | ⟨x,y,h1,h2,h3,h4⟩
  ·left
   unfold Gq
   rw [h1,h2]
   exact⟨rfl,rfl⟩
  ·rcases Vw h l with⟨i1,i2⟩ | ⟨xs,ys,i1,i2,i3,i4⟩
   ·left
    unfold Gq
    rw [h1,h2,i1,i2]
    exact⟨rfl,rfl⟩
   ·right
    unfold Gq
    rw [h1,h2,i1,i2]
    refine⟨x::xs,y::ys,rfl,rfl,?_,?_⟩
    ·have:Ef (x::xs)=(((x.Minutes.length:Int)==0)||Ef xs):=rfl
     rw [this,i3,h3]
     rfl
    ·have:Ef (y::ys)=(((y.Minutes.length:Int)==0)||Ef ys):=rfl
     rw [this,h4]
     simp
theorem Yd (a:Airspace)(n:Nat) : ∀ (rs:List Route) (k:Nat) (x y:List Int),(∀ j r,rs[j]? = some r→a.Routes[k+j]? = some r) →
  (Ji (Bq a (List.replicate n An) (a.Segments.map C2)) rs k x=none∧Ji (Bq a (List.replicate n Cg) a.Segments) rs k y=none) ∨
  ∃ l,Ji (Bq a (List.replicate n An) (a.Segments.map C2)) rs k x=some x∧Ji (Bq a (List.replicate n Cg) a.Segments) rs k y=some l∧l.length=y.length+rs.countP fun r=>decide (0<r.Segments.length)
 | [],k,x,y,h=>.inr ⟨y,rfl,rfl,by simp⟩
 | r::rs,k,x,y,h=>by
  have hr:a.Routes[k]? = some r:=h 0 r rfl
  have e1:Fi (Bq a (List.replicate n An) (a.Segments.map C2)) (k:Int)=Gq (Fm (Bq a (List.replicate n An) (a.Segments.map C2))) r.Segments:=by
   unfold Fi
   rw [if_pos (by omega)]
   show(match a.Routes[((k:Int)).toNat]? with | none=>none | some rt=>_)=_
   rw [Int.toNat_natCast,hr]
  have e2:Fi (Bq a (List.replicate n Cg) a.Segments) (k:Int)=Gq (Fm (Bq a (List.replicate n Cg) a.Segments)) r.Segments:=by
   unfold Fi
   rw [if_pos (by omega)]
   show(match a.Routes[((k:Int)).toNat]? with | none=>none | some rt=>_)=_
   rw [Int.toNat_natCast,hr]
  unfold Ji
  rw [e1,e2]
  rcases Vw (Aal a n) r.Segments with⟨i1,i2⟩ | ⟨xs,ys,i1,i2,i3,i4⟩
  ·left
   rw [i1,i2]
   exact⟨rfl,rfl⟩
  ·rw [i1,i2]
   simp only [i3,i4,Bool.false_eq_true,if_false]
   rcases Yd a n rs (k+1) x (if decide (0<r.Segments.length)=true then y++[(k:Int)] else y) (fun j q hq=>by rw [show k+1+j=k+(j+1) by omega]; exact h (j+1) q (by simpa using hq)) with h1 | ⟨l,h1,h2,h3⟩
   ·exact .inl h1
   ·refine .inr ⟨l,h1,h2,?_⟩
    rw [h3,List.countP_cons]
    split <;> simp <;> omega
theorem Xq (a:Airspace)(n k:Nat):Gn (Bq a (List.replicate n Cg) a.Segments) (k:Int)=none∨Gn (Bq a (List.replicate n Cg) a.Segments) (k:Int)=some []:=by
 cases hs:a.Segments[k]? with
 | none=>
  left
  unfold Gn
  rw [Sv (by omega) (by
   show((a.Segments.length:Nat):Int)≤k
   have:=List.getElem?_eq_none_iff.1 hs
   omega)]
  rfl
 | some s=>
  rw [Py hs]
  split
  ·right
   rw [show Cg.Closed=Na from rfl,M5]
  ·exact .inl rfl
theorem Sh (a:Airspace)(n:Nat) : ∀ (ss:List Segment) (k:Nat),E8 (Bq a (List.replicate n Cg) a.Segments) ss k=none∨E8 (Bq a (List.replicate n Cg) a.Segments) ss k=some []
 | [],k=>.inr rfl
 | s::ss,k=>by
  unfold E8
  rcases Xq a n k with h | h
  ·rw [h]; exact .inl rfl
  ·rw [h]
   rcases Sh a n ss (k+1) with i | i
   ·rw [i]; exact .inl rfl
   ·rw [i]; exact .inr rfl
theorem X0 (a:Airspace)(n:Nat):Nk (Bq a (List.replicate n Cg) a.Segments)=none∨Nk (Bq a (List.replicate n Cg) a.Segments)=some []:=by
 unfold Nk
 rcases Sh a n a.Segments 0 with h | h
 ·rw [show(Bq a (List.replicate n Cg) a.Segments).Segments=a.Segments from rfl,h]; exact .inl rfl
 ·rw [show(Bq a (List.replicate n Cg) a.Segments).Segments=a.Segments from rfl,h]
  right
  simp [Ja]
theorem R8 : ∀ (vs:List Volume) (k n:Nat),k+vs.length=n→Dc (fun j _=>fun l=>B6 j l) k vs (List.replicate k Cg++List.replicate vs.length An)=.ok (List.replicate n Cg)
 | [],k,n,h=>by
  rw [Qs]
  simp at h
  simp [h]
 | v::vs,k,n,h=>by
  simp only [List.length_cons] at h
  have hg:(List.replicate k Cg++List.replicate (vs.length+1) An)[k]? = some An:=by
   rw [List.getElem?_append_right (by simp),List.length_replicate,Nat.sub_self,List.getElem?_replicate,if_pos (by omega)]
  have hst:B6 k (List.replicate k Cg++List.replicate (vs.length+1) An)=.ok (List.replicate (k+1) Cg++List.replicate vs.length An):=by
   unfold B6
   rw [Rj hg,R.ok_bind,Int.toNat_natCast,List.set_append_right (h:=by simp),List.length_replicate,Nat.sub_self,List.replicate_succ (n:=vs.length),List.set_cons_zero,List.replicate_succ' (n:=k),List.append_assoc]
   rfl
  rw [F1]
  show(B6 k (List.replicate k Cg++List.replicate (vs.length+1) An)).bind _=_
  rw [hst,R.ok_bind]
  exact R8 vs (k+1) n (by omega)
theorem T1 (a:Airspace) : ∀ (ss:List Segment) (k:Nat),a.Segments.drop k=ss→k≤a.Segments.length →
  each (fun j1 _=>fun l1=>B7 a (List.replicate a.Volumes.length Cg) j1 l1) k ss ((a.Segments.take k).map C2++ss)=.ok (.inl (a.Segments.map C2))
 | [],k,hd,hk=>by
  have:a.Segments.length≤k:=List.drop_eq_nil_iff.1 hd
  rw [Z2,List.take_of_length_le this,List.append_nil]
 | s::ss,k,hd,hk=>by
  have hlt:k<a.Segments.length:=by
   rcases Nat.lt_or_ge k a.Segments.length with hh | hh
   ·exact hh
   ·rw [List.drop_eq_nil_of_le hh] at hd; cases hd
  have hs:a.Segments[k]? = some s:=by
   have:=List.getElem?_drop (xs:=a.Segments) (i:=k) (j:=0)
   rw [hd] at this; simpa using this.symm
  have hd':a.Segments.drop (k+1)=ss:=by
   have:=congrArg List.tail hd
   simpa using this
  have hlen:((a.Segments.take k).map C2).length=k:=by simp; omega
  have hg:((a.Segments.take k).map C2++s::ss)[k]? = some s:=by
   rw [List.getElem?_append_right (by omega),hlen,Nat.sub_self]; rfl
  have hset:((a.Segments.take k).map C2++s::ss).set k (C2 s)=(a.Segments.take (k+1)).map C2++ss:=by
   rw [List.set_append_right (h:=by omega),hlen,Nat.sub_self,List.set_cons_zero,List.take_add_one,hs]
   simp
  have hg2:((a.Segments.take (k+1)).map C2++ss)[k]? = some (C2 s):=by
   rw [← hset,List.getElem?_set,if_pos rfl,if_pos (by simp; omega)]
  have hst:B7 a (List.replicate a.Volumes.length Cg) k ((a.Segments.take k).map C2++s::ss)=.ok (.inl ((a.Segments.take (k+1)).map C2++ss)):=by
   unfold B7
   rw [Rj hg,R.ok_bind]
   simp only [Int.toNat_natCast]
   rw [show({ s with Open:=[] }:Segment)=C2 s from rfl,hset]
   rw [show Cq ({ Volumes:=List.replicate a.Volumes.length An,Sectors:=a.Sectors,Configs:=a.Configs,Segments:=(a.Segments.take (k+1)).map C2++ss,Routes:=a.Routes,Airports:=a.Airports,Classes:=a.Classes,Rules:=a.Rules }:Airspace) (k:Int)=_ from Nc (Bq a (List.replicate a.Volumes.length An) ((a.Segments.take (k+1)).map C2++ss)) (k:Int)]
   rw [show Cq ({ Volumes:=List.replicate a.Volumes.length Cg,Sectors:=a.Sectors,Configs:=a.Configs,Segments:=a.Segments,Routes:=a.Routes,Airports:=a.Airports,Classes:=a.Classes,Rules:=a.Rules }:Airspace) (k:Int)=_ from Nc (Bq a (List.replicate a.Volumes.length Cg) a.Segments) (k:Int)]
   rw [Py hg2,Py hs]
   simp only [R.ok_bind]
   by_cases hq:0≤s.Volume∧s.Volume<(a.Volumes.length:Int)
   ·rw [if_pos (show 0≤(C2 s).Volume∧(C2 s).Volume<(a.Volumes.length:Int) from hq),if_pos hq,Aa9,show An.Closed=[] from rfl,Si,show Cg.Closed=Na from rfl,M5]
    have e0:D5 U5 [({ From:=0,To:=1440 }:Span)]=.ok true:=W8 U5
    simp [Ka,e0]
   ·rw [if_neg (show ¬ (0≤(C2 s).Volume∧(C2 s).Volume<(a.Volumes.length:Int)) from hq),if_neg hq]
    rfl
  rw [J2,hst]
  exact T1 a ss (k+1) hd' (by omega)
theorem Rq : ∀ (rs:List Route) (k n:Nat),n+rs.length≤2000000→Dc (fun _ a5=>fun x2=>Bc a5 x2) k rs (n:Int)=.ok ((n+rs.countP fun r=>decide (0<r.Segments.length):Nat):Int)
 | [],k,n,h=>by rw [Qs]; simp
 | r::rs,k,n,h=>by
  simp only [List.length_cons] at h
  have hw:IntKind.wrap .i64 ((n:Int)+1)=((n+1:Nat):Int):=by rw [Tp (by omega) (by omega)]; omega
  rw [F1,List.countP_cons]
  by_cases hp:(r.Segments.length:Int) > 0
  ·have hst:Bc r (n:Int)=.ok ((n+1:Nat):Int):=by
    unfold Bc
    rw [if_pos hp,hw]
   simp only [hst,R.ok_bind]
   have hc : ∀ c:Nat,((n+1+c:Nat):Int)=((n+(c+1):Nat):Int):=fun c=>by omega
   rw [Rq rs (k+1) (n+1) (by omega),if_pos (by rw [decide_eq_true_eq]; omega),hc]
  ·have hst:Bc r (n:Int)=.ok (n:Int):=by
    unfold Bc
    rw [if_neg hp]
   simp only [hst,R.ok_bind]
   rw [Rq rs (k+1) n (by omega),if_neg (by rw [decide_eq_true_eq]; omega)]
   rfl
theorem law_OpeningAlways:F5:=by
 intro a ha hb
 have hsm:=Zr hb
 unfold Fk
 rw [Aap,R.ok_bind,if_pos rfl]
 obtain⟨f,ef⟩:=Y1 a
 rw [ef,R.ok_bind]
 cases f with
 | false=>rfl
 | true=>
  rw [if_pos rfl]
  unfold En
  have hv:=hsm.vol
  have hsg:=hsm.seg
  have hrt:=hsm.rt
  have hlim:(0:Int)≤(a.Volumes.length:Int)∧((a.Volumes.length:Int):Int)≤(a.Volumes.length:Int)∧(Int.toNat (a.Volumes.length:Int)) * 40≤Do:=⟨by omega,Int.le_refl _,by unfold Do; omega⟩
  rw [if_pos hlim,if_pos hlim,Int.toNat_natCast]
  have h1:=R8 a.Volumes 0 a.Volumes.length (by omega)
  simp only [List.replicate_zero,List.nil_append] at h1
  rw [h1,R.ok_bind,if_pos (by unfold Do; omega)]
  have h2:=T1 a a.Segments 0 (by simp) (by omega)
  simp only [List.take_zero,List.map_nil,List.nil_append] at h2
  rw [h2]
  simp only [R.ok_bind,D9]
  have smF:Small (Bq a (List.replicate a.Volumes.length An) (a.Segments.map C2)):=⟨by simpa [Bq] using hsm.seg,by simpa [Bq] using hsm.vol,hsm.rt,hsm.rs⟩
  have smS:Small (Bq a (List.replicate a.Volumes.length Cg) a.Segments):=⟨hsm.seg,by simpa [Bq] using hsm.vol,hsm.rt,hsm.rs⟩
  rw [show B0 ({ Volumes:=List.replicate a.Volumes.length An,Sectors:=a.Sectors,Configs:=a.Configs,Segments:=a.Segments.map C2,Routes:=a.Routes,Airports:=a.Airports,Classes:=a.Classes,Rules:=a.Rules }:Airspace)=_ from Kv (Bq a (List.replicate a.Volumes.length An) (a.Segments.map C2)) smF]
  rw [show B0 ({ Volumes:=List.replicate a.Volumes.length Cg,Sectors:=a.Sectors,Configs:=a.Configs,Segments:=a.Segments,Routes:=a.Routes,Airports:=a.Airports,Classes:=a.Classes,Rules:=a.Rules }:Airspace)=_ from Kv (Bq a (List.replicate a.Volumes.length Cg) a.Segments) smS]
  rw [show Cs ({ Volumes:=List.replicate a.Volumes.length Cg,Sectors:=a.Sectors,Configs:=a.Configs,Segments:=a.Segments,Routes:=a.Routes,Airports:=a.Airports,Classes:=a.Classes,Rules:=a.Rules }:Airspace)=_ from Lz (Bq a (List.replicate a.Volumes.length Cg) a.Segments) smS]
  simp only [R.ok_bind]
  have hpass:(Ka (Nk (Bq a (List.replicate a.Volumes.length Cg) a.Segments))).1=[]:=by
   rcases X0 a a.Volumes.length with h | h <;> rw [h] <;> rfl
  rcases Yd a a.Volumes.length a.Routes 0 [] [] (fun j r h=>by simpa using h) with⟨b1,b2⟩ | ⟨l,b1,b2,b3⟩
  ·rw [show blk (Bq a (List.replicate a.Volumes.length An) (a.Segments.map C2))=none from b1,show blk (Bq a (List.replicate a.Volumes.length Cg) a.Segments)=none from b2]
   rfl
  ·rw [show blk (Bq a (List.replicate a.Volumes.length An) (a.Segments.map C2))=some [] from b1,show blk (Bq a (List.replicate a.Volumes.length Cg) a.Segments)=some l from b2]
   simp only [Ka,bne_self_eq_false,Bool.false_eq_true,if_false]
   have h3:=Rq a.Routes 0 0 (by omega)
   rw [show(0:Int)=((0:Nat):Int) from rfl,h3,R.ok_bind]
   have hl:(l.length:Int)=((0+a.Routes.countP fun r=>decide (0<r.Segments.length):Nat):Int):=by rw [b3]; simp
   rw [hl]
   have hp2:(((Ka (Nk (Bq a (List.replicate a.Volumes.length Cg) a.Segments))).1.length:Int)==0)=true:=by rw [hpass]; rfl
   simp [hp2]
   exact .inr hpass
end Go.Am
namespace Go.Proofs
open Go.Shelf
def Try.keys34_ren:Go.Shelf.Ren:=⟨fun | 7=>34 | 10=>44 | n=>n,fun | 23=>77 | 26=>3 | 3=>4 | 28=>80 | 0=>0 | 27=>79 | 33=>91 | 4=>4 | n=>n,fun | n=>n⟩
theorem Try.keys34:Go.Proofs.SlLaysZI.n7 Try.prog Try.keys34_ren:={
 mixed:=by kernel_rfl
 f7:=⟨Try.f34.name,by decide,Try.func34.trans (congrArg some (by kernel_rfl))⟩
 f10:=⟨Try.f44.name,by decide,Try.func44.trans (congrArg some (by kernel_rfl))⟩
 t0:=Try.underlying0
 a0:=Try.isAgg0
 z0:=Try.sizeOf0
 v0:=Try.zeroValue0
 t4:=Try.underlying4
 a4:=Try.isAgg4
 z4:=Try.sizeOf4
 v4:=Try.zeroValue4
 t23:=Try.underlying77
 a23:=Try.isAgg77
 z23:=Try.sizeOf77
 v23:=Try.zeroValue77
 t26:=Try.underlying3
 a26:=Try.isAgg3
 z26:=Try.sizeOf3
 v26:=Try.zeroValue3
 t27:=Try.underlying79
 a27:=Try.isAgg79
 z27:=Try.sizeOf79
 v27:=Try.zeroValue79
 t28:=Try.underlying80
 a28:=Try.isAgg80
 z28:=Try.sizeOf80
 v28:=Try.zeroValue80
 t33:=Try.underlying91
 a33:=Try.isAgg91
 z33:=Try.sizeOf91
 v33:=Try.zeroValue91 }
def Try.sorted33_ren:Go.Shelf.Ren:=⟨fun | 6=>33 | 8=>42 | 9=>43 | 11=>48 | 13=>50 | 12=>49 | 23=>63 | 24=>64 | 14=>54 | 15=>55 | 16=>56 | 17=>57 | 18=>58 | 19=>59 | 20=>60 | 21=>61 | 22=>62 | 25=>67 | 26=>68 | 27=>69 | 28=>70 | 29=>71 | 30=>72 | 31=>73 | n=>n,fun | 26=>3 | 28=>80 | 24=>34 | 0=>0 | 3=>3 | 37=>98 | 48=>117 | 50=>119 | 4=>4 | 40=>109 | 39=>108 | 45=>114 | 5=>5 | 9=>9 | 51=>121 | 55=>125 | 57=>127 | 58=>128 | 33=>91 | n=>n,fun | n=>n⟩
theorem Try.sorted33:Go.Proofs.SlLaysZI.n6 Try.prog Try.sorted33_ren:={
 mixed:=by kernel_rfl
 f6:=⟨Try.f33.name,by decide,Try.func33.trans (congrArg some (by kernel_rfl))⟩
 f8:=⟨Try.f42.name,by decide,Try.func42.trans (congrArg some (by kernel_rfl))⟩
 f11:=⟨Try.f48.name,by decide,Try.func48.trans (congrArg some (by kernel_rfl))⟩
 t0:=Try.underlying0
 a0:=Try.isAgg0
 z0:=Try.sizeOf0
 v0:=Try.zeroValue0
 t24:=Try.underlying34
 a24:=Try.isAgg34
 z24:=Try.sizeOf34
 v24:=Try.zeroValue34
 t26:=Try.underlying3
 a26:=Try.isAgg3
 z26:=Try.sizeOf3
 v26:=Try.zeroValue3
 t28:=Try.underlying80
 a28:=Try.isAgg80
 z28:=Try.sizeOf80
 v28:=Try.zeroValue80
 i26:=by kernel_rfl }
def Try.sort43_ren:Go.Shelf.Ren:=⟨fun | 5=>43 | 8=>50 | 7=>49 | 19=>63 | 20=>64 | 10=>54 | 11=>55 | 12=>56 | 13=>57 | 14=>58 | 15=>59 | 16=>60 | 17=>61 | 18=>62 | 30=>67 | 31=>68 | 32=>69 | 33=>70 | 34=>71 | 35=>72 | 40=>73 | n=>n,fun | 23=>34 | 25=>3 | 3=>3 | 32=>98 | 22=>34 | 0=>0 | 44=>117 | 46=>119 | 4=>4 | 36=>109 | 35=>108 | 41=>114 | 5=>5 | 9=>9 | 53=>121 | 57=>125 | 63=>127 | 64=>128 | n=>n,fun | n=>n⟩
theorem Try.sort43:Go.Proofs.SlLaysM.n5 Try.prog Try.sort43_ren:={
 mixed:=by kernel_rfl
 f5:=⟨Try.f43.name,by decide,Try.func43.trans (congrArg some (by kernel_rfl))⟩
 f7:=⟨Try.f49.name,by decide,Try.func49.trans (congrArg some (by kernel_rfl))⟩
 f8:=Try.func50.trans (congrArg some (by kernel_rfl))
 f10:=⟨Try.f54.name,by decide,Try.func54.trans (congrArg some (by kernel_rfl))⟩
 f11:=⟨Try.f55.name,by decide,Try.func55.trans (congrArg some (by kernel_rfl))⟩
 f12:=⟨Try.f56.name,by decide,Try.func56.trans (congrArg some (by kernel_rfl))⟩
 f13:=⟨Try.f57.name,by decide,Try.func57.trans (congrArg some (by kernel_rfl))⟩
 f14:=⟨Try.f58.name,by decide,Try.func58.trans (congrArg some (by kernel_rfl))⟩
 f15:=⟨Try.f59.name,by decide,Try.func59.trans (congrArg some (by kernel_rfl))⟩
 f16:=⟨Try.f60.name,by decide,Try.func60.trans (congrArg some (by kernel_rfl))⟩
 f17:=⟨Try.f61.name,by decide,Try.func61.trans (congrArg some (by kernel_rfl))⟩
 f18:=⟨Try.f62.name,by decide,Try.func62.trans (congrArg some (by kernel_rfl))⟩
 f19:=Try.func63.trans (congrArg some (by kernel_rfl))
 f20:=Try.func64.trans (congrArg some (by kernel_rfl))
 f30:=⟨Try.f67.name,by decide,Try.func67.trans (congrArg some (by kernel_rfl))⟩
 f31:=Try.func68.trans (congrArg some (by kernel_rfl))
 f32:=Try.func69.trans (congrArg some (by kernel_rfl))
 f33:=⟨Try.f70.name,by decide,Try.func70.trans (congrArg some (by kernel_rfl))⟩
 f34:=⟨Try.f71.name,by decide,Try.func71.trans (congrArg some (by kernel_rfl))⟩
 f35:=⟨Try.f72.name,by decide,Try.func72.trans (congrArg some (by kernel_rfl))⟩
 f40:=⟨Try.f73.name,by decide,Try.func73.trans (congrArg some (by kernel_rfl))⟩
 t0:=Try.underlying0
 a0:=Try.isAgg0
 z0:=Try.sizeOf0
 v0:=Try.zeroValue0
 t3:=Try.underlying3
 a3:=Try.isAgg3
 z3:=Try.sizeOf3
 v3:=Try.zeroValue3
 t4:=Try.underlying4
 a4:=Try.isAgg4
 z4:=Try.sizeOf4
 v4:=Try.zeroValue4
 t5:=Try.underlying5
 a5:=Try.isAgg5
 z5:=Try.sizeOf5
 v5:=Try.zeroValue5
 t9:=Try.underlying9
 a9:=Try.isAgg9
 z9:=Try.sizeOf9
 v9:=Try.zeroValue9
 t22:=Try.underlying34
 a22:=Try.isAgg34
 z22:=Try.sizeOf34
 v22:=Try.zeroValue34
 t23:=Try.underlying34
 a23:=Try.isAgg34
 z23:=Try.sizeOf34
 v23:=Try.zeroValue34
 t25:=Try.underlying3
 a25:=Try.isAgg3
 z25:=Try.sizeOf3
 v25:=Try.zeroValue3
 t32:=Try.underlying98
 a32:=Try.isAgg98
 z32:=Try.sizeOf98
 v32:=Try.zeroValue98
 t35:=Try.underlying108
 a35:=Try.isAgg108
 z35:=Try.sizeOf108
 v35:=Try.zeroValue108
 t36:=Try.underlying109
 a36:=Try.isAgg109
 z36:=Try.sizeOf109
 v36:=Try.zeroValue109
 t41:=Try.underlying114
 a41:=Try.isAgg114
 z41:=Try.sizeOf114
 v41:=Try.zeroValue114
 t44:=Try.underlying117
 a44:=Try.isAgg117
 z44:=Try.sizeOf117
 v44:=Try.zeroValue117
 t46:=Try.underlying119
 a46:=Try.isAgg119
 z46:=Try.sizeOf119
 v46:=Try.zeroValue119
 t53:=Try.underlying121
 a53:=Try.isAgg121
 z53:=Try.sizeOf121
 v53:=Try.zeroValue121
 t57:=Try.underlying125
 a57:=Try.isAgg125
 z57:=Try.sizeOf125
 v57:=Try.zeroValue125
 t63:=Try.underlying127
 a63:=Try.isAgg127
 z63:=Try.sizeOf127
 v63:=Try.zeroValue127
 t64:=Try.underlying128
 a64:=Try.isAgg128
 z64:=Try.sizeOf128
 v64:=Try.zeroValue128 }
open Go.RowKit Go.Maps Go.Sort in
theorem Try.sorts33 (m : Nat) : AnyZI.SortsIn Try.prog Try.sorted33_ren Fence.wide m :=
  ⟨fun blk off cap ss W hH hblk hsz => callsIn_wide.2 (AnyM.slices_Sort_int Try.sort43 blk off cap ss W hH hblk hsz),
   fun p cap W => callsIn_wide.2 (AnyM.slices_Sort_int_none Try.sort43 p cap W)⟩
open Go.RowKit Go.Maps Go.Sort in
theorem Try.maps_Keys_34 (mb : Option Nat) (W : World) : Calls Try.prog 34 #[.map mb] W fun e w' => e = .returned (.func (.func 44) #[] #[.pointer (some ⟨W.heap.size, 0, none⟩)]) ∧ w' = W.alloc (.cells #[.map mb] (Try.keys34_ren.t 23)) :=
 (callsIn_wide (n := 5)).1 (AnyZI.keys_in Try.keys34 Fence.wide 5 trivial rfl mb W)
open Go.RowKit Go.Maps Go.Sort in
theorem Try.sorted_keys_33_34 (Bm b nn : Nat) (D0 : DataW Unit) (R : Value → Option (DataW Unit × List MemPlace)) (w : World) (hBm : Bm < w.heap.size) (hm : w.cell? ⟨Bm, 0, none⟩ = some (.map (some b))) (hown : w.ownsMap Try.prog 3 R b nn D0) (hmax : Maps.size D0 ≤ maxLen) (hbytes : Maps.size D0 * 8 ≤ 140737488355328) :
  Calls Try.prog 33 #[.func (.func 44) #[] #[.pointer (some ⟨Bm, 0, none⟩)]] w fun e w' => ∃ (v : Value) (ss : List Int), e = .returned v ∧ ss.Perm (intKeys D0) ∧
   w'.ownsRow w.heap.size 3 1 v ss.length ((ss.mergeSort (fun x y => decide (x ≤ y))).map encZ) ∧ (v = .slice none 0 0 ↔ ss = []) ∧ Below w.heap.size w w' := by
 refine (callsIn_wide (n := 5)).1 ?_
 have hseq : SeqGives Fence.wide 2 Try.prog 44 #[.pointer (some ⟨Bm, 0, none⟩)] encZ (fun ss => ss.Perm (intKeys D0)) (Maps.size D0) w :=
  AnyZI.keys_gives (ρ := Try.keys34_ren) { Try.keys34 with } Fence.wide _ trivial rfl (by omega) Bm b nn D0 w hBm hm hown
 exact AnyZI.sorted_in Try.sorted33 Fence.wide 5 trivial trivial trivial trivial rfl (by omega) (Try.sorts33 _) (enters_of Try.func43 (by kernel_rfl) rfl) 44 #[.pointer (some ⟨Bm, 0, none⟩)] trivial (enters_of Try.func44 (by kernel_rfl) rfl) _ _ hmax hbytes _ hseq
end Go.Proofs
namespace Go.Am
open Go Go.Proofs
set_option linter.unusedVariables false
set_option linter.unusedSimpArgs false
instance gwI:GW Try.prog:={ n:=0,G:=fun _ _=>True,keep:=fun _ _ _=>trivial }
theorem U6:Try.prog.follows .mixedOrders=true:=by kernel_rfl
theorem Ih:ti Try.prog 3=some ⟨.int .i64,1,8,[.int .i64 0]⟩:=by kernel_rfl
theorem Lk:ti Try.prog 4=some ⟨.bool,1,1,[.bool false]⟩:=by kernel_rfl
theorem Abv:ti Try.prog 20=some ⟨.ifc,1,16,[.nili]⟩:=by kernel_rfl
theorem G7:ti Try.prog 22=some ⟨.sl 57,1,24,[.emp]⟩:=by kernel_rfl
theorem Ts:ti Try.prog 23=some ⟨.sl 64,1,24,[.emp]⟩:=by kernel_rfl
theorem Uj:ti Try.prog 24=some ⟨.sl 66,1,24,[.emp]⟩:=by kernel_rfl
theorem Fa:ti Try.prog 25=some ⟨.sl 59,1,24,[.emp]⟩:=by kernel_rfl
theorem Ic:ti Try.prog 26=some ⟨.sl 50,1,24,[.emp]⟩:=by kernel_rfl
theorem Xa:ti Try.prog 27=some ⟨.sl 69,1,24,[.emp]⟩:=by kernel_rfl
theorem Add:ti Try.prog 28=some ⟨.sl 146,1,24,[.emp]⟩:=by kernel_rfl
theorem Adl:ti Try.prog 29=some ⟨.sl 148,1,24,[.emp]⟩:=by kernel_rfl
theorem Ct:ti Try.prog 31=some ⟨.st [(0,22),(1,23),(2,24),(3,25),(4,26),(5,27),(6,28),(7,29)],8,192,[.emp,.emp,.emp,.emp,.emp,.emp,.emp,.emp]⟩:=by kernel_rfl
theorem Eg:ti Try.prog 34=some ⟨.sl 3,1,24,[.emp]⟩:=by kernel_rfl
theorem Dw:ti Try.prog 35=some ⟨.sl 55,1,24,[.emp]⟩:=by kernel_rfl
theorem F2:ti Try.prog 36=some ⟨.int .i64,1,8,[.int .i64 0]⟩:=by kernel_rfl
theorem L4:ti Try.prog 39=some ⟨.sl 52,1,24,[.emp]⟩:=by kernel_rfl
theorem Zi:ti Try.prog 48=some ⟨.sl 9,1,24,[.emp]⟩:=by kernel_rfl
theorem P4:ti Try.prog 50=some ⟨.st [(0,9),(1,9),(2,9),(3,3),(4,3),(5,48),(6,34)],7,112,[.str [],.str [],.str [],.int .i64 0,.int .i64 0,.emp,.emp]⟩:=by kernel_rfl
theorem Ma:ti Try.prog 52=some ⟨.st [(0,3),(1,3),(2,3),(3,35)],4,48,[.int .i64 0,.int .i64 0,.int .i64 0,.emp]⟩:=by kernel_rfl
theorem E4:ti Try.prog 55=some ⟨.st [(0,3),(1,3)],2,16,[.int .i64 0,.int .i64 0]⟩:=by kernel_rfl
theorem Oo:ti Try.prog 57=some ⟨.st [(0,9),(1,35)],2,40,[.str [],.emp]⟩:=by kernel_rfl
theorem G6:ti Try.prog 59=some ⟨.st [(0,9),(1,9),(2,3),(3,3),(4,35)],5,72,[.str [],.str [],.int .i64 0,.int .i64 0,.emp]⟩:=by kernel_rfl
theorem Acf:ti Try.prog 64=some ⟨.st [(0,9),(1,48),(2,34),(3,3),(4,3)],5,80,[.str [],.emp,.emp,.int .i64 0,.int .i64 0]⟩:=by kernel_rfl
theorem Abx:ti Try.prog 66=some ⟨.st [(0,9),(1,48),(2,34)],3,64,[.str [],.emp,.emp]⟩:=by kernel_rfl
theorem Adg:ti Try.prog 67=some ⟨.sl 150,1,24,[.emp]⟩:=by kernel_rfl
theorem Ac7:ti Try.prog 69=some ⟨.st [(0,9),(1,67)],2,40,[.str [],.emp]⟩:=by kernel_rfl
theorem Ac2:ti Try.prog 77=some ⟨.map 3 4,1,8,[.mnil]⟩:=by kernel_rfl
theorem Tl:ti Try.prog 86=some ⟨.st [],0,0,[]⟩:=by kernel_rfl
theorem Abi:ti Try.prog 99=some ⟨.ptr 102,1,8,[.nilp]⟩:=by kernel_rfl
theorem Nv:ti Try.prog 102=some ⟨.arr 1440 4,1440,1440,List.replicate 1440 (.bool false)⟩:=by kernel_rfl
theorem W5:Fq Try.prog [(0,22),(1,23),(2,24),(3,25),(4,26),(5,27),(6,28),(7,29)]=some [(0,1),(1,1),(2,1),(3,1),(4,1),(5,1),(6,1),(7,1)]:=by kernel_rfl
theorem Adc:Fq Try.prog [(0,9),(1,9),(2,9),(3,3),(4,3),(5,48),(6,34)]=some [(0,1),(1,1),(2,1),(3,1),(4,1),(5,1),(6,1)]:=by kernel_rfl
theorem Ac8:Fq Try.prog [(0,3),(1,3),(2,3),(3,35)]=some [(0,1),(1,1),(2,1),(3,1)]:=by kernel_rfl
theorem Xg:Fq Try.prog [(0,3),(1,3)]=some [(0,1),(1,1)]:=by kernel_rfl
theorem Adu:Fq Try.prog [(0,9),(1,35)]=some [(0,1),(1,1)]:=by kernel_rfl
theorem Adj:Fq Try.prog []=some []:=by kernel_rfl
theorem Acg {o:BinOp}{x y:Operand}{a b:AV}(ha:a.isAgg=true)(hb:b.isAgg=true):G2 Try.prog o 55 x y a b=true:=Yg ha hb (by kernel_rfl)
theorem Acd {aFrom:Int}{aTo:Int}{bFrom:Int}{bTo:Int}:Kq Try.prog .neq 55 (AV.agg [(.int .i64 aFrom),(.int .i64 aTo)]) (AV.agg [(.int .i64 bFrom),(.int .i64 bTo)])=some (.bool (!((aFrom==bFrom)&&(aTo==bTo)))):=by
 have he55:N6 Try.prog 55=true:=by kernel_rfl
 simp only [Kq,Nb,he55,if_true,List.drop_succ_cons,List.drop_zero,List.take_succ_cons,List.take_zero,List.take_nil,Aai,Zb,Kl,Eo,Ih,E4,TK.agg,Nat.reduceAdd,Nat.reduceLT,Nat.reduceLeDiff,List.length_cons,List.length_nil,List.getD_cons_zero,List.getD_cons_succ,Ya,Bool.and_true,Option.map_some,if_false,Bool.false_eq_true,reduceCtorEq,Nat.zero_add]
 try rfl
end Go.Am
